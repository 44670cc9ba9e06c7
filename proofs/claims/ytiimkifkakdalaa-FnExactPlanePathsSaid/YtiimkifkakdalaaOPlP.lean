/- impl.PlanePaths and its closure: what a call of them computes. Conditions: none. -/
import Derived.Test.YtiimkifkakdalaaOPlT
import Derived.Test.YtiimkifkakdalaaODelP
import Derived.Test.YtiimkifkakdalaaODegs
namespace Go.Proofs.Ytiimkifkakdalaa.P
open Go.RowKit Go.Proofs.YtiimkifkakdalaaW.PrintWords Go.Proofs.YtiimkifkakdalaaW.PrintLast Go.Proofs.YtiimkifkakdalaaW.PrintMore
set_option linter.unusedVariables false
set_option linter.unusedSimpArgs false

/-- What is left of a list of sets. -/
def impl_PlanePaths_1.del (k : Nat) (n : Int) : List Int → Option (List Int)
  | [] => some []
  | x :: r => (impl_hasDegrees.f k n x 1 2).bind fun b => (impl_PlanePaths_1.del k n r).bind fun t => some (if b = true then x :: t else t)
theorem impl_PlanePaths_1.del_mono (k : Nat) (n : Int) : ∀ xs, LeO (impl_PlanePaths_1.del k n xs) (impl_PlanePaths_1.del (k + 1) n xs)
  | [] => LeO.refl _
  | x :: r => by
    have ih := impl_PlanePaths_1.del_mono k n r
    unfold impl_PlanePaths_1.del
    exact LeO.bind (impl_hasDegrees.mono _ _ _ _ _) (fun _ => LeO.bind ih (fun _ => LeO.refl _))
theorem impl_PlanePaths_1.del_open (k : Nat) (n : Int) : ∀ (xs r : List Int), impl_PlanePaths_1.del k n xs = some r → (∀ x ∈ xs, impl_hasDegrees.f k n x 1 2 = some ((impl_hasDegrees.f k n x 1 2).getD false)) ∧ r = xs.filter (fun x => !(!((impl_hasDegrees.f k n x 1 2).getD false)))
  | [], r, h => ⟨fun x hx => absurd hx (by simp), by simpa [impl_PlanePaths_1.del] using h.symm⟩
  | x :: xs, r, h => by
    unfold impl_PlanePaths_1.del at h
    obtain ⟨b, hb, h⟩ := Option.bind_eq_some_iff.mp h
    obtain ⟨t, ht, h⟩ := Option.bind_eq_some_iff.mp h
    obtain ⟨h1, h2⟩ := impl_PlanePaths_1.del_open k n xs t ht
    have hx : (impl_hasDegrees.f k n x 1 2).getD false = b := by rw [hb]; rfl
    refine ⟨fun y hy => ?_, ?_⟩
    · rcases List.mem_cons.mp hy with rfl | hy
      · rw [hx, hb]
      · exact h1 y hy
    · rw [List.filter_cons, hx, ← h2]
      have := Option.some.inj h
      cases b <;> simp_all
def impl_PlanePaths.f (k : Nat) (n : Int) (s : ByteArray) : Option (List Int) := (impl_PlaneTrees.f k n s).bind fun t => if t.length < 4611686018427387904 then impl_PlanePaths_1.del k n t else none
theorem impl_PlanePaths.mono : ∀ a0 a1 k, LeO (impl_PlanePaths.f k a0 a1) (impl_PlanePaths.f (k + 1) a0 a1) := by
  intro a0 a1 k
  unfold impl_PlanePaths.f
  refine LeO.bind (impl_PlaneTrees.mono _ _ _) (fun _ => LeO.ite (impl_PlanePaths_1.del_mono _ _ _) (LeO.refl _))
set_option maxHeartbeats 8000000 in
set_option maxRecDepth 100000 in
theorem PlanePaths_1.calls (k : Nat) (g : Nat) (n x : Int) (b : Bool) (W : World) (hc : W.cell? ⟨g, 0, none⟩ = some (.int .i64 n)) (h : impl_hasDegrees.f k n x 1 2 = some b) :
    Calls Try.prog 45 #[.int .i64 x, .pointer (some ⟨g, 0, none⟩)] W fun e W' => e = .returned (.bool (!b)) ∧ Below W.heap.size W W' := by
  have HB := Aside0.mk (Below.refl W.heap.size W)
  have A1 := Aside0.mk h
  clear h
  go_enter Try.func45, Try.ntmps45
  go_wp2_with (first | (go_at_call 41; (with_reducible refine (impl_hasDegrees.calls k n x 1 2 b _ A1.out).mono ?_); rintro e w6 ⟨rfl, hb6⟩))
  go_ret
  exact ⟨rfl, below_step HB.out hb6⟩
set_option maxHeartbeats 8000000 in
set_option maxRecDepth 100000 in
theorem impl_PlanePaths.calls (k : Nat) (a0_0 : Int) (a0_1 : ByteArray) (r : List Int) (w : World) (h : impl_PlanePaths.f k a0_0 a0_1 = some r) :
    Calls Try.prog 22 #[.agg #[.int .i64 a0_0, .string a0_1]] w fun e w' => ∃ v0_ : Value, e = .returned (v0_) ∧ Kd.R (Kd.int .i64) 3 w' w.heap.size (fun _ => True) v0_ r ∧ Below w.heap.size w w' := by
  have hu26 := Try.underlying27
  have hmf : ∀ (fn : Fn) (first cap : Array Value) (w : World), (Instr.makeFunc fn first cap).run Try.prog w = .ok (.func fn first cap) w := fun _ _ _ _ => rfl
  have HB := Aside0.mk (Below.refl w.heap.size w)
  unfold impl_PlanePaths.f at h
  obtain ⟨t, A1, H⟩ := Option.bind_eq_some_iff.mp h
  replace A1 := Aside0.mk A1
  clear h
  by_cases c5 : t.length < 4611686018427387904
  · rw [if_pos c5] at H
    have C5 := Aside0.mk c5
    clear c5
    obtain ⟨hd, rfl⟩ := impl_PlanePaths_1.del_open k a0_0 t r H
    have HD := Aside0.mk hd
    clear H hd
    go_enter Try.func22, Try.ntmps22
    go_wp2_with (first | ((with_reducible refine gate_dst (N := 1) rfl ?_); refine box_event ?hg (N := 1) ?hd (cs := #[.int .i64 a0_0, .string a0_1]) (t := 27) ?hr ?_; (case hd => rfl); (case hg => rfl); (case hr => first | (go_simp; done) | (go_simp; rfl)); intro g3 hg w3 hbox hb; have n0_ := Aside0.mk (below_step (by repeat (first | (with_reducible first | exact HB.out | apply below_alloc | apply pw_below_drewN | apply below_drew1) | exact HB.out)) hb); have GE3 := Aside0.mk ((by rw [hg]; exact (below_size (by repeat (first | (with_reducible first | exact HB.out | apply below_alloc | apply pw_below_drewN | apply below_drew1) | exact HB.out)))) : w.heap.size ≤ g3); have BK3 := Aside0.mk hbox; clear HB; have HB := n0_; clear n0_ hb hbox hg; have hcz3_0 : w3.cell? ⟨g3, 0, none⟩ = some (.int .i64 a0_0) := (blk_cell BK3.out 0).trans rfl; have hfz3_0 := blk_frozen BK3.out 0; have hcz3_1 : w3.cell? ⟨g3, 1, none⟩ = some (.string a0_1) := (blk_cell BK3.out 1).trans rfl; have hfz3_1 := blk_frozen BK3.out 1) | ((with_reducible refine gate_callee (f := 13) rfl ?_); refine goesL_ (some 4) rfl rfl Try.func13 (by kernel_rfl) rfl #[.agg #[.int .i64 a0_0, .string a0_1]] rfl (by (try simp only [List.map_toArray, List.map_cons, List.map_nil]); first | done | rfl | (simp only [List.length_drop, List.length_take]; rfl)) ?_; (with_reducible refine (impl_PlaneTrees.calls k a0_0 a0_1 t _ A1.out).mono ?_); rintro e w4 ⟨v4, rfl, ho4, hb4⟩; refine ⟨_, rfl, ?_⟩; have HO4 := Aside0.mk ho4; have BK4 := Aside0.mk (blk_below BK3.out hb4); have HB4 := Aside0.mk hb4; clear ho4 hb4) | (go_at_call 44; refine (slices_DeleteFunc.calls (.pointer (some ⟨g3, 0, none⟩)) (fun x => !((impl_hasDegrees.f k a0_0 x 1 2).getD false)) t w3 ?asks _ HB4.out C5.out v4 HO4.out).mono ?_; (case asks => exact fun W x hx hW => PlanePaths_1.calls k g3 a0_0 x _ W (bc (Aside0.mk (blk_below BK3.out hW)) 0) (HD.out x hx)); rintro e w10 ⟨v10, rfl, ho10, hb10⟩))
    go_ret
    exact ⟨_, rfl, Kd.R_lower ho10 (below_size (bl HB)), below_step (bl HB) hb10⟩
  · rw [if_neg c5] at H
    exact absurd H (by simp)

end Go.Proofs.Ytiimkifkakdalaa.P
