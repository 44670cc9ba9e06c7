/- impl.WiringOfSigns, impl.IsSorted: what a call of them computes. Conditions: none. -/
import Derived.Test.YthibphndihjcaaaOWg
import Derived.Test.YthibphndihjcaaaP84
namespace Go.Proofs.Ythibphndihjcaaa.P
open Go.RowKit Go.Proofs.YthibphndihjcaaaW.PrintWords Go.Proofs.YthibphndihjcaaaW.PrintLast Go.Proofs.YthibphndihjcaaaW.PrintMore
set_option linter.unusedVariables false
set_option linter.unusedSimpArgs false

/-- What chi.wiring hands back. -/
def wgRes : Option (List Int) → List Int × Bool
  | none => ([], false)
  | some o => (o, true)
theorem wgRes_1 (x : Option (List Int)) : (wgRes x).1 = x.getD [] := by cases x <;> rfl
theorem wgRes_2 (x : Option (List Int)) : (wgRes x).2 = x.isSome := by cases x <;> rfl
def impl_chi_wiring.f (k : Nat) (l : List Int) : Option (List Int × Bool) := if 344 ≤ l.length ∧ rd l 0 = ((rd l 0).toNat : Int) ∧ 3 ≤ (rd l 0).toNat ∧ (rd l 0).toNat ≤ 6 then (impl_upTo.f k ((rd l 0).toNat : Int)).bind fun ws => if ws.length = (rd l 0).toNat ∧ (∀ x ∈ ws, 0 ≤ x ∧ x < 6) then some (wgRes (wgRun l (rd l 0).toNat ((rd l 0).toNat * ((rd l 0).toNat - 1) / 2) ws (List.replicate 36 false) [])) else none else none
theorem impl_chi_wiring.mono : ∀ a0 k, LeO (impl_chi_wiring.f k a0) (impl_chi_wiring.f (k + 1) a0) := by
  intro a0 k
  unfold impl_chi_wiring.f
  exact LeO.ite (LeO.bind (impl_upTo.mono _ _) (fun _ => LeO.refl _)) (LeO.refl _)
theorem impl_chi_wiring.callsF (k : Nat) (A0 : Option Addr) (l : List Int) (r : List Int × Bool) (w : World) (hC : Kd.C (Kd.int .i64) w A0 l.length l) (h : impl_chi_wiring.f k l = some r) :
    Calls Try.prog 69 #[.pointer A0] w fun e w' => ∃ v, e = .returned (.tuple #[v, .bool r.2]) ∧ Kd.R (Kd.int .i64) 3 w' w.heap.size (fun _ => True) v r.1 ∧ Below w.heap.size w w' := by
  unfold impl_chi_wiring.f at h
  by_cases h0 : 344 ≤ l.length ∧ rd l 0 = ((rd l 0).toNat : Int) ∧ 3 ≤ (rd l 0).toNat ∧ (rd l 0).toNat ≤ 6
  case neg => rw [if_neg h0] at h; exact absurd h (by simp)
  rw [if_pos h0] at h
  obtain ⟨ws, hu, h⟩ := Option.bind_eq_some_iff.mp h
  by_cases h1 : ws.length = (rd l 0).toNat ∧ (∀ x ∈ ws, 0 ≤ x ∧ x < 6)
  case neg => rw [if_neg h1] at h; exact absurd h (by simp)
  rw [if_pos h1] at h
  obtain rfl := Option.some.inj h
  obtain ⟨hl, hn, h3, h6⟩ := h0
  generalize (rd l 0).toNat = n at *
  rw [wgRes_1, wgRes_2]
  refine impl_chi_wiring.calls k A0 l n ws (n * (n - 1) / 2) w hC hl hn h3 h6 hu h1.1 h1.2 ?_ ?_
  · have : n = 3 ∨ n = 4 ∨ n = 5 ∨ n = 6 := by omega
    rcases this with rfl | rfl | rfl | rfl <;> decide +kernel
  · have : n = 3 ∨ n = 4 ∨ n = 5 ∨ n = 6 := by omega
    rcases this with rfl | rfl | rfl | rfl <;> decide
def impl_WiringOfSigns.f (k : Nat) (n : Int) (s : ByteArray) : Option (List Int × Bool) := (impl_AreSigns.f k n s).bind fun b => if b = true then (if n > 6 then some ([], false) else (impl_tableOf.f k n s).bind fun l => impl_chi_wiring.f k l) else some ([], false)
theorem impl_WiringOfSigns.mono : ∀ a0 a1 k, LeO (impl_WiringOfSigns.f k a0 a1) (impl_WiringOfSigns.f (k + 1) a0 a1) := by
  intro a0 a1 k
  unfold impl_WiringOfSigns.f
  repeat' first
    | (with_reducible exact impl_AreSigns.mono _ _ _)
    | (with_reducible exact impl_tableOf.mono _ _ _)
    | (with_reducible exact impl_chi_wiring.mono _ _)
    | (with_reducible exact LeO.refl _)
    | (with_reducible refine LeO.ite ?_ ?_)
    | (with_reducible refine LeO.bind ?_ (fun _ => ?_))
set_option maxHeartbeats 8000000 in
set_option maxRecDepth 100000 in
theorem impl_WiringOfSigns.calls (k : Nat) (a0_0 : Int) (a0_1 : ByteArray) (r1 : List Int) (r2 : Bool) (w : World) (h : impl_WiringOfSigns.f k a0_0 a0_1 = some (r1, r2)) :
    Calls Try.prog 39 #[.agg #[.int .i64 a0_0, .string a0_1]] w fun e w' => ∃ v0_ : Value, e = .returned (.tuple #[v0_, .bool r2]) ∧ Kd.R (Kd.int .i64) 3 w' w.heap.size (fun _ => True) v0_ r1 ∧ Below w.heap.size w w' := by
  have hu28 := Try.underlying28
  have HB := Aside0.mk (Below.refl w.heap.size w)
  unfold impl_WiringOfSigns.f at h
  obtain ⟨b, A1, H⟩ := Option.bind_eq_some_iff.mp h
  replace A1 := Aside0.mk A1
  clear h
  cases b with
  | false =>
    rw [if_neg (by simp)] at H
    cases H
    go_enter Try.func39, Try.ntmps39
    go_wp2_with (first | ((with_reducible refine gate_dst (N := 1) rfl ?_); refine box_event ?hg (N := 1) ?hd (cs := #[.int .i64 a0_0, .string a0_1]) (t := 28) ?hr ?_; (case hd => rfl); (case hg => rfl); (case hr => first | (go_simp; done) | (go_simp; rfl)); intro g3 hg w3 hbox hb; have n0_ := Aside0.mk (below_step (by repeat (first | (with_reducible first | exact HB.out | apply below_alloc | apply pw_below_drewN | apply below_drew1) | exact HB.out)) hb); have GE3 := Aside0.mk ((by rw [hg]; exact (below_size (by repeat (first | (with_reducible first | exact HB.out | apply below_alloc | apply pw_below_drewN | apply below_drew1) | exact HB.out)))) : w.heap.size ≤ g3); have BK3 := Aside0.mk hbox; clear HB; have HB := n0_; clear n0_ hb hbox hg; have hcz3_0 : w3.cell? ⟨g3, 0, none⟩ = some (.int .i64 a0_0) := (blk_cell BK3.out 0).trans rfl; have hfz3_0 := blk_frozen BK3.out 0; have hcz3_1 : w3.cell? ⟨g3, 1, none⟩ = some (.string a0_1) := (blk_cell BK3.out 1).trans rfl; have hfz3_1 := blk_frozen BK3.out 1) | (go_at_call 67; (with_reducible refine (impl_AreSigns.calls k a0_0 a0_1 _ _ A1.out).mono ?_); rintro e w4 ⟨rfl, hb⟩; have n9_ := Aside0.mk (blk_below (g := g3) (o := .cells #[.int .i64 a0_0, .string a0_1] 28 (0, 0)) (by (with_reducible repeat (first | refine blk_drewN ?_ _ | refine blk_drew ?_ | refine blk_alloc ?_ _)); exact BK3.out) hb); clear BK3; have BK3 := n9_; clear n9_; have hcz3w4_0 : w4.cell? ⟨g3, 0, none⟩ = some (.int .i64 a0_0) := (blk_cell BK3.out 0).trans rfl; have hfz3w4_0 := blk_frozen BK3.out 0; have hcz3w4_1 : w4.cell? ⟨g3, 1, none⟩ = some (.string a0_1) := (blk_cell BK3.out 1).trans rfl; have hfz3w4_1 := blk_frozen BK3.out 1; replace HB := bs HB hb; clear hb))
    go_ret2
    exact ⟨.slice none 0 0, rfl, Kd.R_nil _ _ _ _ _, bl HB⟩
  | true =>
    rw [if_pos rfl] at H
    by_cases c6 : a0_0 > 6
    · rw [if_pos c6] at H
      have c6b : decide (6 < a0_0) = true := decide_eq_true c6
      clear c6
      cases H
      go_enter Try.func39, Try.ntmps39
      go_wp2_with (first | ((with_reducible refine gate_dst (N := 1) rfl ?_); refine box_event ?hg (N := 1) ?hd (cs := #[.int .i64 a0_0, .string a0_1]) (t := 28) ?hr ?_; (case hd => rfl); (case hg => rfl); (case hr => first | (go_simp; done) | (go_simp; rfl)); intro g3 hg w3 hbox hb; have n0_ := Aside0.mk (below_step (by repeat (first | (with_reducible first | exact HB.out | apply below_alloc | apply pw_below_drewN | apply below_drew1) | exact HB.out)) hb); have GE3 := Aside0.mk ((by rw [hg]; exact (below_size (by repeat (first | (with_reducible first | exact HB.out | apply below_alloc | apply pw_below_drewN | apply below_drew1) | exact HB.out)))) : w.heap.size ≤ g3); have BK3 := Aside0.mk hbox; clear HB; have HB := n0_; clear n0_ hb hbox hg; have hcz3_0 : w3.cell? ⟨g3, 0, none⟩ = some (.int .i64 a0_0) := (blk_cell BK3.out 0).trans rfl; have hfz3_0 := blk_frozen BK3.out 0; have hcz3_1 : w3.cell? ⟨g3, 1, none⟩ = some (.string a0_1) := (blk_cell BK3.out 1).trans rfl; have hfz3_1 := blk_frozen BK3.out 1) | (go_at_call 67; (with_reducible refine (impl_AreSigns.calls k a0_0 a0_1 _ _ A1.out).mono ?_); rintro e w4 ⟨rfl, hb⟩; have n9_ := Aside0.mk (blk_below (g := g3) (o := .cells #[.int .i64 a0_0, .string a0_1] 28 (0, 0)) (by (with_reducible repeat (first | refine blk_drewN ?_ _ | refine blk_drew ?_ | refine blk_alloc ?_ _)); exact BK3.out) hb); clear BK3; have BK3 := n9_; clear n9_; have hcz3w4_0 : w4.cell? ⟨g3, 0, none⟩ = some (.int .i64 a0_0) := (blk_cell BK3.out 0).trans rfl; have hfz3w4_0 := blk_frozen BK3.out 0; have hcz3w4_1 : w4.cell? ⟨g3, 1, none⟩ = some (.string a0_1) := (blk_cell BK3.out 1).trans rfl; have hfz3w4_1 := blk_frozen BK3.out 1; replace HB := bs HB hb; clear hb))
      go_ret2
      exact ⟨.slice none 0 0, rfl, Kd.R_nil _ _ _ _ _, bl HB⟩
    · rw [if_neg c6] at H
      have c6b : decide (6 < a0_0) = false := decide_eq_false c6
      clear c6
      obtain ⟨l, A2, H⟩ := Option.bind_eq_some_iff.mp H
      replace A2 := Aside0.mk A2
      have A3 := Aside0.mk H
      clear H
      go_enter Try.func39, Try.ntmps39
      go_wp2_with (first | ((with_reducible refine gate_dst (N := 1) rfl ?_); refine box_event ?hg (N := 1) ?hd (cs := #[.int .i64 a0_0, .string a0_1]) (t := 28) ?hr ?_; (case hd => rfl); (case hg => rfl); (case hr => first | (go_simp; done) | (go_simp; rfl)); intro g3 hg w3 hbox hb; have n0_ := Aside0.mk (below_step (by repeat (first | (with_reducible first | exact HB.out | apply below_alloc | apply pw_below_drewN | apply below_drew1) | exact HB.out)) hb); have GE3 := Aside0.mk ((by rw [hg]; exact (below_size (by repeat (first | (with_reducible first | exact HB.out | apply below_alloc | apply pw_below_drewN | apply below_drew1) | exact HB.out)))) : w.heap.size ≤ g3); have BK3 := Aside0.mk hbox; clear HB; have HB := n0_; clear n0_ hb hbox hg; have hcz3_0 : w3.cell? ⟨g3, 0, none⟩ = some (.int .i64 a0_0) := (blk_cell BK3.out 0).trans rfl; have hfz3_0 := blk_frozen BK3.out 0; have hcz3_1 : w3.cell? ⟨g3, 1, none⟩ = some (.string a0_1) := (blk_cell BK3.out 1).trans rfl; have hfz3_1 := blk_frozen BK3.out 1) | (go_at_call 67; (with_reducible refine (impl_AreSigns.calls k a0_0 a0_1 _ _ A1.out).mono ?_); rintro e w4 ⟨rfl, hb⟩; have n9_ := Aside0.mk (blk_below (g := g3) (o := .cells #[.int .i64 a0_0, .string a0_1] 28 (0, 0)) (by (with_reducible repeat (first | refine blk_drewN ?_ _ | refine blk_drew ?_ | refine blk_alloc ?_ _)); exact BK3.out) hb); clear BK3; have BK3 := n9_; clear n9_; have hcz3w4_0 : w4.cell? ⟨g3, 0, none⟩ = some (.int .i64 a0_0) := (blk_cell BK3.out 0).trans rfl; have hfz3w4_0 := blk_frozen BK3.out 0; have hcz3w4_1 : w4.cell? ⟨g3, 1, none⟩ = some (.string a0_1) := (blk_cell BK3.out 1).trans rfl; have hfz3w4_1 := blk_frozen BK3.out 1; replace HB := bs HB hb; clear hb) | (go_at_call 68; (with_reducible refine (impl_tableOf.calls k a0_0 a0_1 l _ A2.out).mono ?_); rintro e w5 ⟨v5, rfl, ho, hb⟩; have HO5 := Aside0.mk ho; replace HB := bs HB hb; clear hb ho; obtain ⟨Ao5, co5, eo5⟩ := Kd.R_slice HO5.out; subst eo5) | (go_at_call 69; refine (impl_chi_wiring.callsF k Ao5 l (r1, r2) _ (Kd.R_reads' HO5.out).2.2 A3.out).mono ?_; rintro e w6 ⟨v6, rfl, ho, hb⟩; have HO6 := Aside0.mk ho; have HB6 := Aside0.mk hb; clear ho hb))
      go_ret2
      exact ⟨v6, rfl, Kd.R_lower HO6.out (below_size (bl HB)), below_step (bl HB) HB6.out⟩
def impl_IsSorted.f (k : Nat) (n : Int) (s : ByteArray) : Option Bool := (impl_WiringOfSigns.f k n s).bind fun r => some r.2
theorem impl_IsSorted.mono : ∀ a0 a1 k, LeO (impl_IsSorted.f k a0 a1) (impl_IsSorted.f (k + 1) a0 a1) := by
  intro a0 a1 k
  unfold impl_IsSorted.f
  exact LeO.bind (impl_WiringOfSigns.mono _ _ _) (fun _ => LeO.refl _)
set_option maxHeartbeats 8000000 in
set_option maxRecDepth 100000 in
theorem impl_IsSorted.calls (k : Nat) (a0_0 : Int) (a0_1 : ByteArray) (r : Bool) (w : World) (h : impl_IsSorted.f k a0_0 a0_1 = some r) :
    Calls Try.prog 37 #[.agg #[.int .i64 a0_0, .string a0_1]] w fun e w' => e = .returned (.bool r) ∧ Below w.heap.size w w' := by
  have hu28 := Try.underlying28
  have HB := Aside0.mk (Below.refl w.heap.size w)
  unfold impl_IsSorted.f at h
  obtain ⟨⟨r1, r2⟩, A1, H⟩ := Option.bind_eq_some_iff.mp h
  replace A1 := Aside0.mk A1
  cases H
  clear h
  go_enter Try.func37, Try.ntmps37
  go_wp2_with (first | ((with_reducible refine gate_dst (N := 1) rfl ?_); refine box_event ?hg (N := 1) ?hd (cs := #[.int .i64 a0_0, .string a0_1]) (t := 28) ?hr ?_; (case hd => rfl); (case hg => rfl); (case hr => first | (go_simp; done) | (go_simp; rfl)); intro g3 hg w3 hbox hb; have n0_ := Aside0.mk (below_step (by repeat (first | (with_reducible first | exact HB.out | apply below_alloc | apply pw_below_drewN | apply below_drew1) | exact HB.out)) hb); have GE3 := Aside0.mk ((by rw [hg]; exact (below_size (by repeat (first | (with_reducible first | exact HB.out | apply below_alloc | apply pw_below_drewN | apply below_drew1) | exact HB.out)))) : w.heap.size ≤ g3); have BK3 := Aside0.mk hbox; clear HB; have HB := n0_; clear n0_ hb hbox hg; have hcz3_0 : w3.cell? ⟨g3, 0, none⟩ = some (.int .i64 a0_0) := (blk_cell BK3.out 0).trans rfl; have hfz3_0 := blk_frozen BK3.out 0; have hcz3_1 : w3.cell? ⟨g3, 1, none⟩ = some (.string a0_1) := (blk_cell BK3.out 1).trans rfl; have hfz3_1 := blk_frozen BK3.out 1) | (go_at_call 39; (with_reducible refine (impl_WiringOfSigns.calls k a0_0 a0_1 r1 r2 _ A1.out).mono ?_); rintro e w4 ⟨v4, rfl, ho, hb⟩; have HB4 := bs HB hb; clear ho hb))
  go_ret
  exact ⟨rfl, HB4.out⟩

end Go.Proofs.Ythibphndihjcaaa.P
