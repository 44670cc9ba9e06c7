/- impl.PlaneTrees and its closures: what a call of them computes. Conditions: none. -/
import Derived.Test.YtiimkifkakdalaaOSetsT
import Derived.Test.YtiimkifkakdalaaP38
import Derived.Test.YtiimkifkakdalaaOPlane
namespace Go.Proofs.Ytiimkifkakdalaa.P
open Go.RowKit Go.Proofs.YtiimkifkakdalaaW.PrintWords Go.Proofs.YtiimkifkakdalaaW.PrintLast Go.Proofs.YtiimkifkakdalaaW.PrintMore
set_option linter.unusedVariables false
set_option linter.unusedSimpArgs false

def impl_PlaneTrees.f (k : Nat) (n : Int) (s : ByteArray) : Option (List Int) := planeSets.f (fun k x => impl_isConnected.f k n x) (wrap64 (n - 1)) k n s
theorem impl_PlaneTrees.mono : ∀ a0 a1 k, LeO (impl_PlaneTrees.f k a0 a1) (impl_PlaneTrees.f (k + 1) a0 a1) := fun a0 a1 k => planeSets.mono _ _ (fun k x => impl_isConnected.mono _ _ _) _ _ _
theorem PlaneTrees_1.calls (n : Int) (W : World) : Calls Try.prog 36 #[.int .i64 n] W fun e W' => e = .returned (.int .i64 (wrap64 (n - 1))) ∧ W' = W := by
  go_enter Try.func36, Try.ntmps36
  go_wp2
  go_ret
  exact ⟨rfl, rfl⟩
set_option maxHeartbeats 8000000 in
set_option maxRecDepth 100000 in
theorem PlaneTrees_2.calls (k : Nat) (g : Nat) (n x : Int) (b : Bool) (W : World) (hc : W.cell? ⟨g, 0, none⟩ = some (.int .i64 n)) (h : impl_isConnected.f k n x = some b) :
    Calls Try.prog 37 #[.int .i64 x, .pointer (some ⟨g, 0, none⟩)] W fun e W' => e = .returned (.bool b) ∧ Below W.heap.size W W' := by
  have HB := Aside0.mk (Below.refl W.heap.size W)
  have A1 := Aside0.mk h
  clear h
  go_enter Try.func37, Try.ntmps37
  go_wp2_with (first | (go_at_call 38; (with_reducible refine (impl_isConnected.calls k n x b _ A1.out).mono ?_); rintro e w6 ⟨rfl, hb6⟩))
  go_ret
  exact ⟨rfl, below_step HB.out hb6⟩
set_option maxHeartbeats 8000000 in
set_option maxRecDepth 100000 in
theorem impl_PlaneTrees.calls (k : Nat) (a0_0 : Int) (a0_1 : ByteArray) (r : List Int) (w : World) (h : impl_PlaneTrees.f k a0_0 a0_1 = some r) :
    Calls Try.prog 13 #[.agg #[.int .i64 a0_0, .string a0_1]] w fun e w' => ∃ v0_ : Value, e = .returned (v0_) ∧ Kd.R (Kd.int .i64) 3 w' w.heap.size (fun _ => True) v0_ r ∧ Below w.heap.size w w' := by
  have hu26 := Try.underlying27
  have hmf : ∀ (fn : Fn) (first cap : Array Value) (w : World), (Instr.makeFunc fn first cap).run Try.prog w = .ok (.func fn first cap) w := fun _ _ _ _ => rfl
  have HB := Aside0.mk (Below.refl w.heap.size w)
  have A1 := Aside0.mk h
  clear h
  go_enter Try.func13, Try.ntmps13
  go_wp2_with (first | ((with_reducible refine gate_dst (N := 1) rfl ?_); refine box_event ?hg (N := 1) ?hd (cs := #[.int .i64 a0_0, .string a0_1]) (t := 27) ?hr ?_; (case hd => rfl); (case hg => rfl); (case hr => first | (go_simp; done) | (go_simp; rfl)); intro g3 hg w3 hbox hb; have n0_ := Aside0.mk (below_step (by repeat (first | (with_reducible first | exact HB.out | apply below_alloc | apply pw_below_drewN | apply below_drew1) | exact HB.out)) hb); have GE3 := Aside0.mk ((by rw [hg]; exact (below_size (by repeat (first | (with_reducible first | exact HB.out | apply below_alloc | apply pw_below_drewN | apply below_drew1) | exact HB.out)))) : w.heap.size ≤ g3); have BK3 := Aside0.mk hbox; clear HB; have HB := n0_; clear n0_ hb hbox hg; have hcz3_0 : w3.cell? ⟨g3, 0, none⟩ = some (.int .i64 a0_0) := (blk_cell BK3.out 0).trans rfl; have hfz3_0 := blk_frozen BK3.out 0; have hcz3_1 : w3.cell? ⟨g3, 1, none⟩ = some (.string a0_1) := (blk_cell BK3.out 1).trans rfl; have hfz3_1 := blk_frozen BK3.out 1) | (go_at_call 35; refine (planeSetsT.calls _ _ k a0_0 a0_1 (.pointer (some ⟨g3, 0, none⟩)) r _ (fun W => PlaneTrees_1.calls a0_0 W) ?hF A1.out).mono ?_; (case hF => exact fun kq x b W hx hW => PlaneTrees_2.calls kq g3 a0_0 x b W (bc (Aside0.mk (blk_below BK3.out hW)) 0) hx); rintro e w10 ⟨v10, rfl, ho10, hb10⟩))
  go_ret
  exact ⟨_, rfl, Kd.R_lower ho10 (below_size (bl HB)), below_step (bl HB) hb10⟩

end Go.Proofs.Ytiimkifkakdalaa.P
