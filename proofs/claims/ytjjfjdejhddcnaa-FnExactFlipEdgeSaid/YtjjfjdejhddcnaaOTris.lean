/- impl.Triangulations: what a call of it computes. Conditions: none. -/
import Derived.Test.YtjjfjdejhddcnaaOTri
namespace Go.Proofs.Ytjjfjdejhddcnaa.P
open Go.RowKit Go.Proofs.YtjjfjdejhddcnaaW.PrintWords Go.Proofs.YtjjfjdejhddcnaaW.PrintLast Go.Proofs.YtjjfjdejhddcnaaW.PrintMore
set_option linter.unusedVariables false
set_option linter.unusedSimpArgs false

def impl_Triangulations.l0 : Nat → List Int → Int → Int → List Int → Option (List Int)
  | 0, _, _, _, _ => none
  | k + 1, rows, all, x6, o => if x6 ≤ all then ((impl_plane_isFull.f k rows x6).bind fun b => if b = true then (if o.length < 17592186044416 then (impl_Triangulations.l0 k rows all (wrap64 (x6 + 1)) (o ++ [x6])) else none) else (impl_Triangulations.l0 k rows all (wrap64 (x6 + 1)) o)) else (some o)
def impl_Triangulations.f (k : Nat) (n : Int) (s : ByteArray) : Option (List Int) := (impl_planeOf.f k n s).bind fun r => if r.2 = true then impl_Triangulations.l0 k r.1.1 r.1.2 0 [] else some []
theorem impl_Triangulations.mono_l : ∀ k, (∀ y0 y1 y2 y3, LeO (impl_Triangulations.l0 k y0 y1 y2 y3) (impl_Triangulations.l0 (k + 1) y0 y1 y2 y3))
  | 0 => fun _ _ _ _ r h => by simp [impl_Triangulations.l0] at h
  | k + 1 => by
    have ih0 := impl_Triangulations.mono_l k
    intro y0 y1 y2 y3
    unfold impl_Triangulations.l0
    repeat' first
      | (with_reducible exact ih0 _ _ _ _)
      | (with_reducible exact impl_plane_isFull.mono _ _ _)
      | (with_reducible exact LeO.refl _)
      | (with_reducible refine LeO.ite ?_ ?_)
      | (with_reducible refine LeO.bind ?_ (fun _ => ?_))
theorem impl_Triangulations.mono : ∀ a0 a1 k, LeO (impl_Triangulations.f k a0 a1) (impl_Triangulations.f (k + 1) a0 a1) := by
  intro a0 a1 k
  have ih0 := impl_Triangulations.mono_l k
  unfold impl_Triangulations.f
  repeat' first
    | (with_reducible exact ih0 _ _ _ _)
    | (with_reducible exact impl_planeOf.mono _ _ _)
    | (with_reducible exact LeO.refl _)
    | (with_reducible refine LeO.ite ?_ ?_)
    | (with_reducible refine LeO.bind ?_ (fun _ => ?_))
set_option maxHeartbeats 8000000 in
set_option maxRecDepth 100000 in
theorem impl_Triangulations.calls (k : Nat) (a0_0 : Int) (a0_1 : ByteArray) (r : List Int) (w : World) (h : impl_Triangulations.f k a0_0 a0_1 = some r) :
    Calls Try.prog 37 #[.agg #[.int .i64 a0_0, .string a0_1]] w fun e w' => ∃ v0_ : Value, e = .returned (v0_) ∧ Kd.R (Kd.int .i64) 3 w' w.heap.size (fun _ => True) v0_ r ∧ Below w.heap.size w w' := by
  have HB := Aside0.mk (Below.refl w.heap.size w)
  have H := h
  clear h
  unfold impl_Triangulations.f at H
  replace H := Option.bind_eq_some_iff.mp H
  obtain ⟨⟨⟨t1, t2⟩, t4⟩, A1, H⟩ := H
  replace A1 := Aside0.mk A1
  simp only at H
  cases t4 with
  | false =>
    simp only [Bool.false_eq_true, if_false] at H
    obtain rfl := Option.some.inj H
    go_enter Try.func37, Try.ntmps37
    go_wp2_with (first | ((with_reducible refine gate_dst (N := 1) rfl ?_); refine box_event ?hg (N := 1) ?hd (cs := #[.int .i64 a0_0, .string a0_1]) (t := 26) ?hr ?_; (case hd => rfl); (case hg => rfl); (case hr => first | (go_simp; done) | (go_simp; rfl)); intro g3 hg w3 hbox hb; have n0_ := Aside0.mk (below_step (by repeat (first | (with_reducible first | exact HB.out | apply below_alloc | apply pw_below_drewN | apply below_drew1) | exact HB.out)) hb); have GE3 := Aside0.mk ((by rw [hg]; exact (below_size (by repeat (first | (with_reducible first | exact HB.out | apply below_alloc | apply pw_below_drewN | apply below_drew1) | exact HB.out)))) : w.heap.size ≤ g3); have BK3 := Aside0.mk hbox; clear HB; have HB := n0_; clear n0_ hb hbox hg; have hcz3_0 : w3.cell? ⟨g3, 0, none⟩ = some (.int .i64 a0_0) := (blk_cell BK3.out 0).trans rfl; have hfz3_0 := blk_frozen BK3.out 0; have hcz3_1 : w3.cell? ⟨g3, 1, none⟩ = some (.string a0_1) := (blk_cell BK3.out 1).trans rfl; have hfz3_1 := blk_frozen BK3.out 1) | ((with_reducible refine gate_callee (f := 60) rfl ?_); refine goesL_ (some 9) rfl rfl Try.func60 (by kernel_rfl) rfl #[.agg #[.int .i64 a0_0, .string a0_1]] rfl (by (try simp only [List.map_toArray, List.map_cons, List.map_nil]); first | done | rfl | (simp only [List.length_drop, List.length_take]; rfl)) ?_; (with_reducible refine (impl_planeOf.calls k a0_0 a0_1 _ _ A1.out).mono ?_); rintro e w4 ⟨p4, rfl, hp, hb⟩; refine ⟨_, rfl, ?_⟩; replace HB := bs HB hb; clear hb))
    go_ret
    exact ⟨_, rfl, Kd.R_nil _ _ _ _ _, bl HB⟩
  | true =>
    simp only [if_true] at H
    have H' := Aside0.mk H
    clear H
    go_enter Try.func37, Try.ntmps37
    go_wp2_with (first | ((with_reducible refine gate_dst (N := 1) rfl ?_); refine box_event ?hg (N := 1) ?hd (cs := #[.int .i64 a0_0, .string a0_1]) (t := 26) ?hr ?_; (case hd => rfl); (case hg => rfl); (case hr => first | (go_simp; done) | (go_simp; rfl)); intro g3 hg w3 hbox hb; have n0_ := Aside0.mk (below_step (by repeat (first | (with_reducible first | exact HB.out | apply below_alloc | apply pw_below_drewN | apply below_drew1) | exact HB.out)) hb); have GE3 := Aside0.mk ((by rw [hg]; exact (below_size (by repeat (first | (with_reducible first | exact HB.out | apply below_alloc | apply pw_below_drewN | apply below_drew1) | exact HB.out)))) : w.heap.size ≤ g3); have BK3 := Aside0.mk hbox; clear HB; have HB := n0_; clear n0_ hb hbox hg; have hcz3_0 : w3.cell? ⟨g3, 0, none⟩ = some (.int .i64 a0_0) := (blk_cell BK3.out 0).trans rfl; have hfz3_0 := blk_frozen BK3.out 0; have hcz3_1 : w3.cell? ⟨g3, 1, none⟩ = some (.string a0_1) := (blk_cell BK3.out 1).trans rfl; have hfz3_1 := blk_frozen BK3.out 1) | ((with_reducible refine gate_callee (f := 60) rfl ?_); refine goesL_ (some 9) rfl rfl Try.func60 (by kernel_rfl) rfl #[.agg #[.int .i64 a0_0, .string a0_1]] rfl (by (try simp only [List.map_toArray, List.map_cons, List.map_nil]); first | done | rfl | (simp only [List.length_drop, List.length_take]; rfl)) ?_; (with_reducible refine (impl_planeOf.calls k a0_0 a0_1 _ _ A1.out).mono ?_); rintro e w4 ⟨p4, rfl, hp, hb⟩; refine ⟨_, rfl, ?_⟩; obtain ⟨g4, rfl, hI⟩ := hp.2 rfl; have HI := Aside0.mk hI; clear hp hI; replace HB := bs HB hb; clear hb))
    go_loopg [5, 6] k (fun kq v5 v6 w' => ∃ (o : List Int) (x6 : Int), v6 = .int .i64 x6 ∧ Aside0 (impl_Triangulations.l0 kq t1 t2 x6 o = some r) ∧ Aside0 (kq ≤ k) ∧ Aside0 (Kd.R (Kd.int .i64) 3 w' w4.heap.size (fun _ => True) v5 o) ∧ Aside0 (Below w4.heap.size w4 w'))
    case atStart => exact ⟨[], 0, rfl, H', ⟨Nat.le_refl _⟩, ⟨Kd.R_nil _ _ _ _ _⟩, ⟨Below.refl _ _⟩⟩
    case round =>
      clear H'
      obtain ⟨o, x6, rfl, HA, HK1, HO, HB0⟩ := hrel
      have HP := Aside0.mk (PlaneAt.below HI.out HB0.out)
      obtain ⟨A40, A41, c41, hbk, hcc⟩ := HP.out
      have BK4 := Aside0.mk hbk
      clear hbk hcc
      have hc42 := bc BK4 2
      cases gk with
      | zero => exact absurd HA.out (by simp [impl_Triangulations.l0])
      | succ k1 =>
        have H := HA.out
        clear HA
        simp only [impl_Triangulations.l0] at H
        by_cases c5 : x6 ≤ t2
        · rw [if_pos c5] at H
          have c5b0 : decide (x6 ≤ t2) = true := decide_eq_true c5
          clear c5
          replace H := Option.bind_eq_some_iff.mp H
          obtain ⟨b, A5, H⟩ := H
          replace A5 := Aside0.mk A5
          cases b with
          | true =>
            rw [if_pos rfl] at H
            by_cases c6 : o.length < 17592186044416
            · rw [if_pos c6] at H
              have LM := Aside0.mk c6
              clear c6
              have H' := Aside0.mk H
              clear H
              go_wp2_with (first | ((with_reducible refine gate_callee (f := 62) rfl ?_); refine goesL_ (some 24) rfl rfl Try.func62 (by kernel_rfl) rfl #[.pointer (some ⟨g4, 0, none⟩), .int .i64 x6] rfl (by (try simp only [List.map_toArray, List.map_cons, List.map_nil]); first | done | rfl | (simp only [List.length_drop, List.length_take]; rfl)) ?_; (with_reducible refine (impl_plane_isFull.calls k1 g4 t1 t2 x6 true _ HP.out A5.out).mono ?_); rintro e w6 ⟨rfl, rfl⟩; refine ⟨_, rfl, ?_⟩) | ((with_reducible refine gate_builtin (b := .append) (xs := #[.tmp 25, .tmp 27]) rfl ?_); at_builtin; refine Kd.R_append (Kd.int .i64) (w0 := w4) w4.heap.size rfl (.tmp 25) (.tmp 27) 37 3 (.int .i64 0) 8 rfl Try.underlying37 info3 rfl (by decide) (by omega) u5 o x6 [.int .i64 x6] (fun _ => True) (fun _ => False) rfl rfl ?aP (fun _ hk => hk.elim) ?aF ?aO ?aB ?aS ?aL ?_; (case aP => exact rfl); (case aB => exact (bl HB0)); (case aF => exact (fun _ _ => trivial)); (case aO => exact (rr HO)); (case aS => exact (below_size (bl HB0))); (case aL => have := LM.out; omega); intro v7 w7 ho hb hg hat; have HB1 := Aside0.mk hb; have HO1 := Aside0.mk ho; clear hb ho hg hat))
              go_roundg k1
              case measure => have := HK1.out; omega
              case rel => exact ⟨o ++ [x6], (wrap64 (x6 + 1)), (by first | rfl | (simp; done) | (simp [*]; done)), H', ⟨by have := HK1.out; omega⟩, ⟨HO1.out⟩, ⟨HB1.out⟩⟩
            · rw [if_neg c6] at H
              exact absurd H (by simp)
          | false =>
            rw [if_neg (by simp)] at H
            have H' := Aside0.mk H
            clear H
            go_wp2_with (first | ((with_reducible refine gate_callee (f := 62) rfl ?_); refine goesL_ (some 24) rfl rfl Try.func62 (by kernel_rfl) rfl #[.pointer (some ⟨g4, 0, none⟩), .int .i64 x6] rfl (by (try simp only [List.map_toArray, List.map_cons, List.map_nil]); first | done | rfl | (simp only [List.length_drop, List.length_take]; rfl)) ?_; (with_reducible refine (impl_plane_isFull.calls k1 g4 t1 t2 x6 false _ HP.out A5.out).mono ?_); rintro e w6 ⟨rfl, rfl⟩; refine ⟨_, rfl, ?_⟩))
            go_roundg k1
            case measure => have := HK1.out; omega
            case rel => exact ⟨o, (wrap64 (x6 + 1)), (by first | rfl | (simp; done) | (simp [*]; done)), H', ⟨by have := HK1.out; omega⟩, ⟨HO.out⟩, ⟨HB0.out⟩⟩
        · rw [if_neg c5] at H
          have c5b0 : decide (x6 ≤ t2) = false := decide_eq_false c5
          clear c5
          obtain rfl := Option.some.inj H
          clear H
          go_wp2
          go_ret
          exact ⟨_, rfl, Kd.R_lower HO.out (below_size HB.out), below_step HB.out HB0.out⟩

end Go.Proofs.Ytjjfjdejhddcnaa.P
