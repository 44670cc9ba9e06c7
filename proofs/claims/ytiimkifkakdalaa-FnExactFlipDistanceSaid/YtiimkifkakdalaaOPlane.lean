/- impl.planeOf: what a call of it computes. Conditions: none. -/
import Derived.Test.YtiimkifkakdalaaP168
import Derived.Test.YtiimkifkakdalaaP137
import Derived.Test.YtiimkifkakdalaaP86
import Derived.Test.YtiimkifkakdalaaOPlAt
namespace Go.Proofs.Ytiimkifkakdalaa.P
open Go.RowKit Go.Proofs.YtiimkifkakdalaaW.PrintWords Go.Proofs.YtiimkifkakdalaaW.PrintLast Go.Proofs.YtiimkifkakdalaaW.PrintMore
set_option linter.unusedVariables false
set_option linter.unusedSimpArgs false

def impl_planeOf.f (k : Nat) (n : Int) (s : ByteArray) : Option ((List Int × Int) × Bool) := (impl_orderOf.f k n s).bind fun bt => if bt.2 = true then (if n > 6 then some (([], 0), false) else (impl_chi_crossings.f k bt.1).bind fun t => (impl_AllEdges.f n).bind fun a => some ((t, a), true)) else some (([], 0), false)
/-- The plane that a call hands back. -/
def PlaneRes (w' : World) (p : Value) (r : (List Int × Int) × Bool) : Prop := (r.2 = false → p = .pointer none) ∧ (r.2 = true → ∃ g, p = .pointer (some ⟨g, 0, none⟩) ∧ PlaneAt w' g r.1.1 r.1.2)
theorem impl_planeOf.mono : ∀ a0 a1 k, LeO (impl_planeOf.f k a0 a1) (impl_planeOf.f (k + 1) a0 a1) := by
  intro a0 a1 k
  unfold impl_planeOf.f
  repeat' first
    | (with_reducible exact impl_orderOf.mono _ _ _)
    | (with_reducible exact impl_chi_crossings.mono _ _)
    | (with_reducible exact LeO.refl _)
    | (with_reducible refine LeO.ite ?_ ?_)
    | (with_reducible refine LeO.bind ?_ (fun _ => ?_))
theorem PlaneRes.no (w' : World) : PlaneRes w' (.pointer none) (([], 0), false) := ⟨fun _ => rfl, fun h => Bool.noConfusion h⟩
set_option maxHeartbeats 8000000 in
set_option maxRecDepth 100000 in
theorem impl_planeOf.calls (k : Nat) (a0_0 : Int) (a0_1 : ByteArray) (r : (List Int × Int) × Bool) (w : World) (h : impl_planeOf.f k a0_0 a0_1 = some r) :
    Calls Try.prog 50 #[.agg #[.int .i64 a0_0, .string a0_1]] w fun e w' => ∃ p : Value, e = .returned (.tuple #[p, .bool r.2]) ∧ PlaneRes w' p r ∧ Below w.heap.size w w' := by
  have hu26 := Try.underlying27
  have hu68 := Try.underlying82
  have HB := Aside0.mk (Below.refl w.heap.size w)
  unfold impl_planeOf.f at h
  obtain ⟨⟨t1, t2⟩, A1, H⟩ := Option.bind_eq_some_iff.mp h
  replace A1 := Aside0.mk A1
  clear h
  simp only at H
  cases t2 with
  | false =>
    simp only [Bool.false_eq_true, if_false] at H
    obtain rfl := Option.some.inj H
    clear H
    go_enter Try.func50, Try.ntmps50
    go_wp2_with (first | ((with_reducible refine gate_dst (N := 1) rfl ?_); refine box_event ?hg (N := 1) ?hd (cs := #[.int .i64 a0_0, .string a0_1]) (t := 27) ?hr ?_; (case hd => rfl); (case hg => rfl); (case hr => first | (go_simp; done) | (go_simp; rfl)); intro g3 hg w3 hbox hb; have n0_ := Aside0.mk (below_step (by repeat (first | (with_reducible first | exact HB.out | apply below_alloc | apply pw_below_drewN | apply below_drew1) | exact HB.out)) hb); have GE3 := Aside0.mk ((by rw [hg]; exact (below_size (by repeat (first | (with_reducible first | exact HB.out | apply below_alloc | apply pw_below_drewN | apply below_drew1) | exact HB.out)))) : w.heap.size ≤ g3); have BK3 := Aside0.mk hbox; clear HB; have HB := n0_; clear n0_ hb hbox hg; have hcz3_0 : w3.cell? ⟨g3, 0, none⟩ = some (.int .i64 a0_0) := (blk_cell BK3.out 0).trans rfl; have hfz3_0 := blk_frozen BK3.out 0; have hcz3_1 : w3.cell? ⟨g3, 1, none⟩ = some (.string a0_1) := (blk_cell BK3.out 1).trans rfl; have hfz3_1 := blk_frozen BK3.out 1) | ((with_reducible refine gate_callee (f := 85) rfl ?_); refine goesL_ (some 8) rfl rfl Try.func85 (by kernel_rfl) rfl #[.agg #[.int .i64 a0_0, .string a0_1]] rfl (by (try simp only [List.map_toArray, List.map_cons, List.map_nil]); first | done | rfl | (simp only [List.length_drop, List.length_take]; rfl)) ?_; (with_reducible refine (impl_orderOf.calls k a0_0 a0_1 t1 false _ A1.out).mono ?_); rintro e w4 ⟨v4, rfl, ho0, hb⟩; refine ⟨_, rfl, ?_⟩; have n9_ := Aside0.mk (blk_below (g := g3) (o := .cells #[.int .i64 a0_0, .string a0_1] 27 (0, 0)) (by (with_reducible repeat (first | refine blk_drewN ?_ _ | refine blk_drew ?_ | refine blk_alloc ?_ _)); exact BK3.out) hb); clear BK3; have BK3 := n9_; clear n9_; have hcz3w4_0 : w4.cell? ⟨g3, 0, none⟩ = some (.int .i64 a0_0) := (blk_cell BK3.out 0).trans rfl; have hfz3w4_0 := blk_frozen BK3.out 0; have hcz3w4_1 : w4.cell? ⟨g3, 1, none⟩ = some (.string a0_1) := (blk_cell BK3.out 1).trans rfl; have hfz3w4_1 := blk_frozen BK3.out 1; replace HB := bs HB hb; clear hb ho0))
    go_ret2
    exact ⟨_, rfl, PlaneRes.no _, (by repeat (first | (with_reducible first | exact HB.out | apply below_alloc | apply pw_below_drewN | apply below_drew1) | exact HB.out))⟩
  | true =>
    simp only [if_true] at H
    by_cases h6 : a0_0 > 6
    · rw [if_pos h6] at H
      obtain rfl := Option.some.inj H
      clear H
      have c6 : decide (6 < a0_0) = true := decide_eq_true h6
      clear h6
      go_enter Try.func50, Try.ntmps50
      go_wp2_with (first | ((with_reducible refine gate_dst (N := 1) rfl ?_); refine box_event ?hg (N := 1) ?hd (cs := #[.int .i64 a0_0, .string a0_1]) (t := 27) ?hr ?_; (case hd => rfl); (case hg => rfl); (case hr => first | (go_simp; done) | (go_simp; rfl)); intro g3 hg w3 hbox hb; have n0_ := Aside0.mk (below_step (by repeat (first | (with_reducible first | exact HB.out | apply below_alloc | apply pw_below_drewN | apply below_drew1) | exact HB.out)) hb); have GE3 := Aside0.mk ((by rw [hg]; exact (below_size (by repeat (first | (with_reducible first | exact HB.out | apply below_alloc | apply pw_below_drewN | apply below_drew1) | exact HB.out)))) : w.heap.size ≤ g3); have BK3 := Aside0.mk hbox; clear HB; have HB := n0_; clear n0_ hb hbox hg; have hcz3_0 : w3.cell? ⟨g3, 0, none⟩ = some (.int .i64 a0_0) := (blk_cell BK3.out 0).trans rfl; have hfz3_0 := blk_frozen BK3.out 0; have hcz3_1 : w3.cell? ⟨g3, 1, none⟩ = some (.string a0_1) := (blk_cell BK3.out 1).trans rfl; have hfz3_1 := blk_frozen BK3.out 1) | ((with_reducible refine gate_callee (f := 85) rfl ?_); refine goesL_ (some 8) rfl rfl Try.func85 (by kernel_rfl) rfl #[.agg #[.int .i64 a0_0, .string a0_1]] rfl (by (try simp only [List.map_toArray, List.map_cons, List.map_nil]); first | done | rfl | (simp only [List.length_drop, List.length_take]; rfl)) ?_; (with_reducible refine (impl_orderOf.calls k a0_0 a0_1 t1 true _ A1.out).mono ?_); rintro e w4 ⟨v4, rfl, ho0, hb⟩; refine ⟨_, rfl, ?_⟩; have n9_ := Aside0.mk (blk_below (g := g3) (o := .cells #[.int .i64 a0_0, .string a0_1] 27 (0, 0)) (by (with_reducible repeat (first | refine blk_drewN ?_ _ | refine blk_drew ?_ | refine blk_alloc ?_ _)); exact BK3.out) hb); clear BK3; have BK3 := n9_; clear n9_; have hcz3w4_0 : w4.cell? ⟨g3, 0, none⟩ = some (.int .i64 a0_0) := (blk_cell BK3.out 0).trans rfl; have hfz3w4_0 := blk_frozen BK3.out 0; have hcz3w4_1 : w4.cell? ⟨g3, 1, none⟩ = some (.string a0_1) := (blk_cell BK3.out 1).trans rfl; have hfz3w4_1 := blk_frozen BK3.out 1; replace HB := bs HB hb; clear hb ho0))
      go_ret2
      exact ⟨_, rfl, PlaneRes.no _, (by repeat (first | (with_reducible first | exact HB.out | apply below_alloc | apply pw_below_drewN | apply below_drew1) | exact HB.out))⟩
    · rw [if_neg h6] at H
      obtain ⟨t5, A5, H⟩ := Option.bind_eq_some_iff.mp H
      obtain ⟨t6, A6, H⟩ := Option.bind_eq_some_iff.mp H
      obtain rfl := Option.some.inj H
      replace A5 := Aside0.mk A5
      replace A6 := Aside0.mk A6
      clear H
      have c6 : decide (6 < a0_0) = false := decide_eq_false h6
      clear h6
      go_enter Try.func50, Try.ntmps50
      go_wp2_with (first | ((with_reducible refine gate_dst (N := 1) rfl ?_); refine box_event ?hg (N := 1) ?hd (cs := #[.int .i64 a0_0, .string a0_1]) (t := 27) ?hr ?_; (case hd => rfl); (case hg => rfl); (case hr => first | (go_simp; done) | (go_simp; rfl)); intro g3 hg w3 hbox hb; have n0_ := Aside0.mk (below_step (by repeat (first | (with_reducible first | exact HB.out | apply below_alloc | apply pw_below_drewN | apply below_drew1) | exact HB.out)) hb); have GE3 := Aside0.mk ((by rw [hg]; exact (below_size (by repeat (first | (with_reducible first | exact HB.out | apply below_alloc | apply pw_below_drewN | apply below_drew1) | exact HB.out)))) : w.heap.size ≤ g3); have BK3 := Aside0.mk hbox; clear HB; have HB := n0_; clear n0_ hb hbox hg; have hcz3_0 : w3.cell? ⟨g3, 0, none⟩ = some (.int .i64 a0_0) := (blk_cell BK3.out 0).trans rfl; have hfz3_0 := blk_frozen BK3.out 0; have hcz3_1 : w3.cell? ⟨g3, 1, none⟩ = some (.string a0_1) := (blk_cell BK3.out 1).trans rfl; have hfz3_1 := blk_frozen BK3.out 1) | ((with_reducible refine gate_callee (f := 85) rfl ?_); refine goesL_ (some 8) rfl rfl Try.func85 (by kernel_rfl) rfl #[.agg #[.int .i64 a0_0, .string a0_1]] rfl (by (try simp only [List.map_toArray, List.map_cons, List.map_nil]); first | done | rfl | (simp only [List.length_drop, List.length_take]; rfl)) ?_; (with_reducible refine (impl_orderOf.calls k a0_0 a0_1 t1 true _ A1.out).mono ?_); rintro e w4 ⟨v4, rfl, ho0, hb⟩; refine ⟨_, rfl, ?_⟩; have n9_ := Aside0.mk (blk_below (g := g3) (o := .cells #[.int .i64 a0_0, .string a0_1] 27 (0, 0)) (by (with_reducible repeat (first | refine blk_drewN ?_ _ | refine blk_drew ?_ | refine blk_alloc ?_ _)); exact BK3.out) hb); clear BK3; have BK3 := n9_; clear n9_; have hcz3w4_0 : w4.cell? ⟨g3, 0, none⟩ = some (.int .i64 a0_0) := (blk_cell BK3.out 0).trans rfl; have hfz3w4_0 := blk_frozen BK3.out 0; have hcz3w4_1 : w4.cell? ⟨g3, 1, none⟩ = some (.string a0_1) := (blk_cell BK3.out 1).trans rfl; have hfz3w4_1 := blk_frozen BK3.out 1; have HO4 := Aside0.mk (Kd.R_lower ho0 (below_size (by repeat (first | (with_reducible first | exact HB.out | apply below_alloc | apply pw_below_drewN | apply below_drew1) | exact HB.out)))); replace HB := bs HB hb; clear hb ho0; obtain ⟨Ao4, co4, eo4⟩ := Kd.R_slice HO4.out; subst eo4))
      go_region_held3 (fun w' => w'.cell? ⟨g3, 0, none⟩ = some (.int .i64 a0_0)) (first | go_keep | (rw [hb5.cell (p := ⟨g3, 0, none⟩) (by simp; exact blk_lt BK3.out)]; assumption)) (first | (go_at_call 86; refine (impl_chi_crossings.calls k Ao4 co4 t1 t5 _ (by (with_reducible repeat (first | refine Kd.C_drewN ?_ _ | refine Kd.C_drew ?_)); exact (Kd.R_reads' HO4.out).2.2) (Kd.R_reads' HO4.out).2.1 A5.out).mono ?_; rintro e w5 ⟨v5, rfl, ho5, hb5⟩; obtain ⟨Ao5, co5, rfl⟩ := Kd.R_slice ho5) | (go_at_call 87; refine (impl_AllEdges.calls a0_0 t6 _ A6.out).mono ?_; rintro e w6 ⟨rfl, ⟨nd6, rfl⟩⟩))
      go_wp2
      go_ret2
      have H5 := bs HB (W' := w4.drew) hb5
      refine ⟨.pointer (some ⟨w5.heap.size, 0, none⟩), rfl, ⟨fun h => Bool.noConfusion h, fun _ => ⟨w5.heap.size, rfl, Ao4, Ao5, co5, ?_, ?_⟩⟩, bl H5⟩
      · have := heap_alloc_new (w5.drewN nd6) (.cells #[.pointer Ao4, .slice Ao5 t5.length co5, .int .i64 t6] 82)
        simpa using this
      · exact Kd.C_alloc (Kd.C_drewN (Kd.R_reads' ho5).2.2 _) _

end Go.Proofs.Ytiimkifkakdalaa.P
