/- impl.EmptySets, its closure, impl.EvenSum: what a call of them computes. Conditions: none. -/
import Derived.Test.YtjjfjdejhddcnaaP109
import Derived.Test.YtjjfjdejhddcnaaP74
import Derived.Test.YtjjfjdejhddcnaaODel
namespace Go.Proofs.Ytjjfjdejhddcnaa.P
open Go.RowKit Go.Proofs.YtjjfjdejhddcnaaW.PrintWords Go.Proofs.YtjjfjdejhddcnaaW.PrintLast Go.Proofs.YtjjfjdejhddcnaaW.PrintMore
set_option linter.unusedVariables false
set_option linter.unusedSimpArgs false

def impl_EmptySets_1.l0 : Nat → List Int → Int → Int → Option Bool
  | 0, _, _, _ => none
  | k + 1, l, x, p => if 344 ≤ (l.length : Int) then (if p < rd l 0 then (if 0 ≤ p then (if Go.bits .and .i64 (shr .i64 x p) 1 = 0 then ((impl_chi_inHull.f k l x p).bind fun b => if b = true then some true else impl_EmptySets_1.l0 k l x (wrap64 (p + 1))) else impl_EmptySets_1.l0 k l x (wrap64 (p + 1))) else none) else some false) else none
theorem impl_EmptySets_1.mono_l : ∀ k, (∀ y0 y1 y2, LeO (impl_EmptySets_1.l0 k y0 y1 y2) (impl_EmptySets_1.l0 (k + 1) y0 y1 y2))
  | 0 => fun _ _ _ r h => by simp [impl_EmptySets_1.l0] at h
  | k + 1 => by
    have ih0 := impl_EmptySets_1.mono_l k
    intro y0 y1 y2
    unfold impl_EmptySets_1.l0
    repeat' first
      | (with_reducible exact ih0 _ _ _)
      | (with_reducible exact impl_chi_inHull.mono _ _ _ _)
      | (with_reducible exact LeO.refl _)
      | (with_reducible refine LeO.ite ?_ ?_)
      | (with_reducible refine LeO.bind ?_ (fun _ => ?_))
/-- What is left of a list of sets. -/
def impl_EmptySets_1.del (k : Nat) (l : List Int) : List Int → Option (List Int)
  | [] => some []
  | x :: r => (impl_EmptySets_1.l0 k l x 0).bind fun b => (impl_EmptySets_1.del k l r).bind fun t => some (if b = true then t else x :: t)
theorem impl_EmptySets_1.del_mono (k : Nat) (l : List Int) : ∀ xs, LeO (impl_EmptySets_1.del k l xs) (impl_EmptySets_1.del (k + 1) l xs)
  | [] => LeO.refl _
  | x :: r => by
    have ih := impl_EmptySets_1.del_mono k l r
    unfold impl_EmptySets_1.del
    exact LeO.bind (impl_EmptySets_1.mono_l k _ _ _) (fun _ => LeO.bind ih (fun _ => LeO.refl _))
theorem impl_EmptySets_1.del_open (k : Nat) (l : List Int) : ∀ (xs r : List Int), impl_EmptySets_1.del k l xs = some r → (∀ x ∈ xs, impl_EmptySets_1.l0 k l x 0 = some ((impl_EmptySets_1.l0 k l x 0).getD false)) ∧ r = xs.filter (fun x => !((impl_EmptySets_1.l0 k l x 0).getD false))
  | [], r, h => ⟨fun x hx => absurd hx (by simp), by simpa [impl_EmptySets_1.del] using h.symm⟩
  | x :: xs, r, h => by
    unfold impl_EmptySets_1.del at h
    obtain ⟨b, hb, h⟩ := Option.bind_eq_some_iff.mp h
    obtain ⟨t, ht, h⟩ := Option.bind_eq_some_iff.mp h
    obtain ⟨h1, h2⟩ := impl_EmptySets_1.del_open k l xs t ht
    have hx : (impl_EmptySets_1.l0 k l x 0).getD false = b := by rw [hb]; rfl
    refine ⟨fun y hy => ?_, ?_⟩
    · rcases List.mem_cons.mp hy with rfl | hy
      · rw [hx, hb]
      · exact h1 y hy
    · rw [List.filter_cons, hx, ← h2]
      have := Option.some.inj h
      cases b <;> simp_all
def impl_EmptySets.f (k : Nat) (n : Int) (s : ByteArray) (c : Int) : Option (List Int) := (impl_orderOf.f k n s).bind fun bt => if bt.2 = true then (if c < 3 then some [] else if n < c then some [] else (impl_chi_convexSets.f k bt.1 c).bind fun t => if t.length < 4611686018427387904 then impl_EmptySets_1.del k bt.1 t else none) else some []
theorem impl_EmptySets.mono : ∀ a0 a1 a2 k, LeO (impl_EmptySets.f k a0 a1 a2) (impl_EmptySets.f (k + 1) a0 a1 a2) := by
  intro a0 a1 a2 k
  unfold impl_EmptySets.f
  repeat' first
    | (with_reducible exact impl_orderOf.mono _ _ _)
    | (with_reducible exact impl_chi_convexSets.mono _ _ _)
    | (with_reducible exact impl_EmptySets_1.del_mono _ _ _)
    | (with_reducible exact LeO.refl _)
    | (with_reducible refine LeO.ite ?_ ?_)
    | (with_reducible refine LeO.bind ?_ (fun _ => ?_))
set_option maxHeartbeats 8000000 in
set_option maxRecDepth 100000 in
theorem impl_EmptySets_1.calls (k : Nat) (gc : Nat) (A0 : Option Addr) (c0 : Nat) (l : List Int) (a1 : Int) (r : Bool) (w : World) (hc : w.cell? ⟨gc, 0, none⟩ = some (.pointer A0)) (hC : Kd.C (Kd.int .i64) w A0 l.length l) (hc0 : l.length ≤ c0) (h : impl_EmptySets_1.l0 k l a1 0 = some r) :
    Calls Try.prog 73 #[.int .i64 a1, .pointer (some ⟨gc, 0, none⟩)] w fun e w' => e = .returned (.bool r) ∧ Below w.heap.size w w' := by
  have HB := Aside0.mk (Below.refl w.heap.size w)
  have HC := Aside0.mk hC
  have HC0 := Aside0.mk hc0
  have H' := Aside0.mk h
  have HCE := Aside0.mk hc
  clear hC hc0 h hc
  go_enter Try.func73, Try.ntmps73
  go_wp2
  go_loopg [4] k (fun kq v4 w' => ∃ x4 : Int, v4 = .int .i64 x4 ∧ Aside0 (impl_EmptySets_1.l0 kq l a1 x4 = some r) ∧ Aside0 (kq ≤ k) ∧ Aside0 (Below w.heap.size w w'))
  case atStart => exact ⟨0, rfl, H', ⟨Nat.le_refl _⟩, HB⟩
  case round =>
    clear H'
    obtain ⟨x4, rfl, HA, HK1, HB0⟩ := hrel
    have hc := (HB0.out.cell (World.block_lt_of_cell? w _ HCE.out)).trans HCE.out
    cases gk with
    | zero => exact absurd HA.out (by simp [impl_EmptySets_1.l0])
    | succ k1 =>
      have H := HA.out
      clear HA
      simp only [impl_EmptySets_1.l0] at H
      by_cases c3 : 344 ≤ (l.length : Int)
      · rw [if_pos c3] at H
        have q0 : (0 : Int) < (l.length : Int) := by omega
        obtain ⟨ad, he, hx⟩ := Kd.at_int HC.out 0 (by omega) q0
        cases he
        rw [show ((0 : Int)).toNat = 0 from rfl, Addr.add_zero'] at hx
        replace hx := (HB0.out.cell (World.block_lt_of_cell? w _ hx)).trans hx
        replace q0 := eq_true q0
        by_cases c4 : x4 < rd l 0
        · rw [if_pos c4] at H
          have c4b : decide (x4 < rd l 0) = true := decide_eq_true c4
          clear c4
          by_cases c5 : 0 ≤ x4
          · rw [if_pos c5] at H
            have c5b : decide (0 ≤ x4) = true := decide_eq_true c5
            have c5c : (0 ≤ x4) = True := eq_true c5
            clear c5
            obtain ⟨j, hj⟩ : ∃ j_ : Int, (shr .i64 a1 x4) = j_ := ⟨_, rfl⟩
            rw [hj] at H
            have hj_ : (a1 / 2 ^ min x4.toNat 64) = j := hj
            have hjz : x4 ≤ 64 → (a1 / 2 ^ x4.toNat) = j := shr_small hj
            clear hj
            by_cases c7 : Go.bits .and .i64 j 1 = 0
            · rw [if_pos c7] at H
              have c7b : (Go.bits .and .i64 j 1 == 0) = true := beq_iff_eq.mpr c7
              clear c7
              replace H := Option.bind_eq_some_iff.mp H
              obtain ⟨b, A5, H⟩ := H
              replace A5 := Aside0.mk A5
              cases b with
              | true =>
                rw [if_pos rfl] at H
                obtain rfl := Option.some.inj H
                clear H
                go_wp2_with (first | (go_at_call 74; (with_reducible refine (impl_chi_inHull.calls k1 _ c0 l a1 x4 _ _ (Kd.C_below HC.out HB0.out) HC0.out A5.out).mono ?_); rintro e w6 ⟨rfl, hb6⟩))
                go_ret
                exact ⟨rfl, below_step HB0.out hb6⟩
              | false =>
                rw [if_neg (by simp)] at H
                have H' := Aside0.mk H
                clear H
                go_wp2_with (first | (go_at_call 74; (with_reducible refine (impl_chi_inHull.calls k1 _ c0 l a1 x4 _ _ (Kd.C_below HC.out HB0.out) HC0.out A5.out).mono ?_); rintro e w6 ⟨rfl, hb6⟩))
                go_roundg k1
                case measure => have := HK1.out; omega
                case rel => exact ⟨wrap64 (x4 + 1), (by first | rfl | (simp; done) | (simp [*]; done)), H', ⟨by have := HK1.out; omega⟩, ⟨below_step HB0.out hb6⟩⟩
            · rw [if_neg c7] at H
              have c7b : (Go.bits .and .i64 j 1 == 0) = false := beq_eq_false_iff_ne.mpr c7
              clear c7
              have H' := Aside0.mk H
              clear H
              go_wp2
              go_roundg k1
              case measure => have := HK1.out; omega
              case rel => exact ⟨wrap64 (x4 + 1), (by first | rfl | (simp; done) | (simp [*]; done)), H', ⟨by have := HK1.out; omega⟩, HB0⟩
          · rw [if_neg c5] at H
            exact absurd H (by simp)
        · rw [if_neg c4] at H
          have c4b : decide (x4 < rd l 0) = false := decide_eq_false c4
          clear c4
          obtain rfl := Option.some.inj H
          clear H
          go_wp2
          go_ret
          exact ⟨rfl, HB0.out⟩
      · rw [if_neg c3] at H
        exact absurd H (by simp)
set_option maxHeartbeats 8000000 in
set_option maxRecDepth 100000 in
theorem impl_EmptySets.calls (k : Nat) (a0_0 : Int) (a0_1 : ByteArray) (a1 : Int) (r : List Int) (w : World) (h : impl_EmptySets.f k a0_0 a0_1 a1 = some r) :
    Calls Try.prog 41 #[.agg #[.int .i64 a0_0, .string a0_1], .int .i64 a1] w fun e w' => ∃ v0_ : Value, e = .returned (v0_) ∧ Kd.R (Kd.int .i64) 3 w' w.heap.size (fun _ => True) v0_ r ∧ Below w.heap.size w w' := by
  have hu26 := Try.underlying26
  have hmf : ∀ (fn : Fn) (first cap : Array Value) (w : World), (Instr.makeFunc fn first cap).run Try.prog w = .ok (.func fn first cap) w := fun _ _ _ _ => rfl
  have HB := Aside0.mk (Below.refl w.heap.size w)
  have H := h
  clear h
  unfold impl_EmptySets.f at H
  replace H := Option.bind_eq_some_iff.mp H
  obtain ⟨⟨t1, t2⟩, A1, H⟩ := H
  replace A1 := Aside0.mk A1
  simp only at H
  cases t2 with
  | false =>
    simp only [Bool.false_eq_true, if_false] at H
    obtain rfl := Option.some.inj H
    clear H
    go_enter Try.func41, Try.ntmps41
    go_wp2_with (first | ((with_reducible refine gate_dst (N := 2) rfl ?_); refine box_event ?hg (N := 2) ?hd (cs := #[.int .i64 a0_0, .string a0_1]) (t := 26) ?hr ?_; (case hd => rfl); (case hg => rfl); (case hr => first | (go_simp; done) | (go_simp; rfl)); intro g3 hg w3 hbox hb; have n0_ := Aside0.mk (below_step (by repeat (first | (with_reducible first | exact HB.out | apply below_alloc | apply pw_below_drewN | apply below_drew1) | exact HB.out)) hb); have GE3 := Aside0.mk ((by rw [hg]; exact (below_size (by repeat (first | (with_reducible first | exact HB.out | apply below_alloc | apply pw_below_drewN | apply below_drew1) | exact HB.out)))) : w.heap.size ≤ g3); have BK3 := Aside0.mk hbox; clear HB; have HB := n0_; clear n0_ hb hbox hg; have hcz3_0 : w3.cell? ⟨g3, 0, none⟩ = some (.int .i64 a0_0) := (blk_cell BK3.out 0).trans rfl; have hfz3_0 := blk_frozen BK3.out 0; have hcz3_1 : w3.cell? ⟨g3, 1, none⟩ = some (.string a0_1) := (blk_cell BK3.out 1).trans rfl; have hfz3_1 := blk_frozen BK3.out 1) | ((with_reducible refine gate_callee (f := 47) rfl ?_); refine goesL_ (some 9) rfl rfl Try.func47 (by kernel_rfl) rfl #[.agg #[.int .i64 a0_0, .string a0_1]] rfl (by (try simp only [List.map_toArray, List.map_cons, List.map_nil]); first | done | rfl | (simp only [List.length_drop, List.length_take]; rfl)) ?_; (with_reducible refine (impl_orderOf.calls k a0_0 a0_1 t1 _ _ A1.out).mono ?_); rintro e w4 ⟨v4, rfl, ho0, hb⟩; refine ⟨_, rfl, ?_⟩; have n9_ := Aside0.mk (blk_below (g := g3) (o := .cells #[.int .i64 a0_0, .string a0_1] 26 (0, 0)) (by (with_reducible repeat (first | refine blk_drewN ?_ _ | refine blk_drew ?_ | refine blk_alloc ?_ _)); exact BK3.out) hb); clear BK3; have BK3 := n9_; clear n9_; have hcz3w4_0 : w4.cell? ⟨g3, 0, none⟩ = some (.int .i64 a0_0) := (blk_cell BK3.out 0).trans rfl; have hfz3w4_0 := blk_frozen BK3.out 0; have hcz3w4_1 : w4.cell? ⟨g3, 1, none⟩ = some (.string a0_1) := (blk_cell BK3.out 1).trans rfl; have hfz3w4_1 := blk_frozen BK3.out 1; have HO4 := Aside0.mk (Kd.R_lower ho0 (below_size (by repeat (first | (with_reducible first | exact HB.out | apply below_alloc | apply pw_below_drewN | apply below_drew1) | exact HB.out)))); replace HB := bs HB hb; clear hb ho0; obtain ⟨Ao4, co4, eo4⟩ := Kd.R_slice HO4.out; subst eo4; have HO8 := Aside0.mk (Kd.R_alloc HO4.out (.cells #[.pointer Ao4] 46)); have HC8 := Aside0.mk (show (w4.alloc (.cells #[.pointer Ao4] 46)).cell? ⟨w4.heap.size, 0, none⟩ = some (.pointer Ao4) by simp); have hz8 : (w4.alloc (.cells #[.pointer Ao4] 46)).cell? ⟨g3, 0, none⟩ = some (.int .i64 a0_0) := bc (Aside0.mk (blk_alloc BK3.out _)) 0))
    go_ret
    exact ⟨_, rfl, Kd.R_nil _ _ _ _ _, bl HB⟩
  | true =>
    simp only [if_true] at H
    by_cases c3 : a1 < 3
    · rw [if_pos c3] at H
      have c3b : decide (a1 < 3) = true := decide_eq_true c3
      clear c3
      obtain rfl := Option.some.inj H
      clear H
      go_enter Try.func41, Try.ntmps41
      go_wp2_with (first | ((with_reducible refine gate_dst (N := 2) rfl ?_); refine box_event ?hg (N := 2) ?hd (cs := #[.int .i64 a0_0, .string a0_1]) (t := 26) ?hr ?_; (case hd => rfl); (case hg => rfl); (case hr => first | (go_simp; done) | (go_simp; rfl)); intro g3 hg w3 hbox hb; have n0_ := Aside0.mk (below_step (by repeat (first | (with_reducible first | exact HB.out | apply below_alloc | apply pw_below_drewN | apply below_drew1) | exact HB.out)) hb); have GE3 := Aside0.mk ((by rw [hg]; exact (below_size (by repeat (first | (with_reducible first | exact HB.out | apply below_alloc | apply pw_below_drewN | apply below_drew1) | exact HB.out)))) : w.heap.size ≤ g3); have BK3 := Aside0.mk hbox; clear HB; have HB := n0_; clear n0_ hb hbox hg; have hcz3_0 : w3.cell? ⟨g3, 0, none⟩ = some (.int .i64 a0_0) := (blk_cell BK3.out 0).trans rfl; have hfz3_0 := blk_frozen BK3.out 0; have hcz3_1 : w3.cell? ⟨g3, 1, none⟩ = some (.string a0_1) := (blk_cell BK3.out 1).trans rfl; have hfz3_1 := blk_frozen BK3.out 1) | ((with_reducible refine gate_callee (f := 47) rfl ?_); refine goesL_ (some 9) rfl rfl Try.func47 (by kernel_rfl) rfl #[.agg #[.int .i64 a0_0, .string a0_1]] rfl (by (try simp only [List.map_toArray, List.map_cons, List.map_nil]); first | done | rfl | (simp only [List.length_drop, List.length_take]; rfl)) ?_; (with_reducible refine (impl_orderOf.calls k a0_0 a0_1 t1 _ _ A1.out).mono ?_); rintro e w4 ⟨v4, rfl, ho0, hb⟩; refine ⟨_, rfl, ?_⟩; have n9_ := Aside0.mk (blk_below (g := g3) (o := .cells #[.int .i64 a0_0, .string a0_1] 26 (0, 0)) (by (with_reducible repeat (first | refine blk_drewN ?_ _ | refine blk_drew ?_ | refine blk_alloc ?_ _)); exact BK3.out) hb); clear BK3; have BK3 := n9_; clear n9_; have hcz3w4_0 : w4.cell? ⟨g3, 0, none⟩ = some (.int .i64 a0_0) := (blk_cell BK3.out 0).trans rfl; have hfz3w4_0 := blk_frozen BK3.out 0; have hcz3w4_1 : w4.cell? ⟨g3, 1, none⟩ = some (.string a0_1) := (blk_cell BK3.out 1).trans rfl; have hfz3w4_1 := blk_frozen BK3.out 1; have HO4 := Aside0.mk (Kd.R_lower ho0 (below_size (by repeat (first | (with_reducible first | exact HB.out | apply below_alloc | apply pw_below_drewN | apply below_drew1) | exact HB.out)))); replace HB := bs HB hb; clear hb ho0; obtain ⟨Ao4, co4, eo4⟩ := Kd.R_slice HO4.out; subst eo4; have HO8 := Aside0.mk (Kd.R_alloc HO4.out (.cells #[.pointer Ao4] 46)); have HC8 := Aside0.mk (show (w4.alloc (.cells #[.pointer Ao4] 46)).cell? ⟨w4.heap.size, 0, none⟩ = some (.pointer Ao4) by simp); have hz8 : (w4.alloc (.cells #[.pointer Ao4] 46)).cell? ⟨g3, 0, none⟩ = some (.int .i64 a0_0) := bc (Aside0.mk (blk_alloc BK3.out _)) 0))
      go_ret
      exact ⟨_, rfl, Kd.R_nil _ _ _ _ _, bl HB⟩
    · rw [if_neg c3] at H
      have c3b : decide (a1 < 3) = false := decide_eq_false c3
      clear c3
      by_cases c4 : a0_0 < a1
      · rw [if_pos c4] at H
        have c4b : decide (a0_0 < a1) = true := decide_eq_true c4
        clear c4
        obtain rfl := Option.some.inj H
        clear H
        go_enter Try.func41, Try.ntmps41
        go_wp2_with (first | ((with_reducible refine gate_dst (N := 2) rfl ?_); refine box_event ?hg (N := 2) ?hd (cs := #[.int .i64 a0_0, .string a0_1]) (t := 26) ?hr ?_; (case hd => rfl); (case hg => rfl); (case hr => first | (go_simp; done) | (go_simp; rfl)); intro g3 hg w3 hbox hb; have n0_ := Aside0.mk (below_step (by repeat (first | (with_reducible first | exact HB.out | apply below_alloc | apply pw_below_drewN | apply below_drew1) | exact HB.out)) hb); have GE3 := Aside0.mk ((by rw [hg]; exact (below_size (by repeat (first | (with_reducible first | exact HB.out | apply below_alloc | apply pw_below_drewN | apply below_drew1) | exact HB.out)))) : w.heap.size ≤ g3); have BK3 := Aside0.mk hbox; clear HB; have HB := n0_; clear n0_ hb hbox hg; have hcz3_0 : w3.cell? ⟨g3, 0, none⟩ = some (.int .i64 a0_0) := (blk_cell BK3.out 0).trans rfl; have hfz3_0 := blk_frozen BK3.out 0; have hcz3_1 : w3.cell? ⟨g3, 1, none⟩ = some (.string a0_1) := (blk_cell BK3.out 1).trans rfl; have hfz3_1 := blk_frozen BK3.out 1) | ((with_reducible refine gate_callee (f := 47) rfl ?_); refine goesL_ (some 9) rfl rfl Try.func47 (by kernel_rfl) rfl #[.agg #[.int .i64 a0_0, .string a0_1]] rfl (by (try simp only [List.map_toArray, List.map_cons, List.map_nil]); first | done | rfl | (simp only [List.length_drop, List.length_take]; rfl)) ?_; (with_reducible refine (impl_orderOf.calls k a0_0 a0_1 t1 _ _ A1.out).mono ?_); rintro e w4 ⟨v4, rfl, ho0, hb⟩; refine ⟨_, rfl, ?_⟩; have n9_ := Aside0.mk (blk_below (g := g3) (o := .cells #[.int .i64 a0_0, .string a0_1] 26 (0, 0)) (by (with_reducible repeat (first | refine blk_drewN ?_ _ | refine blk_drew ?_ | refine blk_alloc ?_ _)); exact BK3.out) hb); clear BK3; have BK3 := n9_; clear n9_; have hcz3w4_0 : w4.cell? ⟨g3, 0, none⟩ = some (.int .i64 a0_0) := (blk_cell BK3.out 0).trans rfl; have hfz3w4_0 := blk_frozen BK3.out 0; have hcz3w4_1 : w4.cell? ⟨g3, 1, none⟩ = some (.string a0_1) := (blk_cell BK3.out 1).trans rfl; have hfz3w4_1 := blk_frozen BK3.out 1; have HO4 := Aside0.mk (Kd.R_lower ho0 (below_size (by repeat (first | (with_reducible first | exact HB.out | apply below_alloc | apply pw_below_drewN | apply below_drew1) | exact HB.out)))); replace HB := bs HB hb; clear hb ho0; obtain ⟨Ao4, co4, eo4⟩ := Kd.R_slice HO4.out; subst eo4; have HO8 := Aside0.mk (Kd.R_alloc HO4.out (.cells #[.pointer Ao4] 46)); have HC8 := Aside0.mk (show (w4.alloc (.cells #[.pointer Ao4] 46)).cell? ⟨w4.heap.size, 0, none⟩ = some (.pointer Ao4) by simp); have hz8 : (w4.alloc (.cells #[.pointer Ao4] 46)).cell? ⟨g3, 0, none⟩ = some (.int .i64 a0_0) := bc (Aside0.mk (blk_alloc BK3.out _)) 0))
        go_ret
        exact ⟨_, rfl, Kd.R_nil _ _ _ _ _, bl HB⟩
      · rw [if_neg c4] at H
        have c4b : decide (a0_0 < a1) = false := decide_eq_false c4
        clear c4
        replace H := Option.bind_eq_some_iff.mp H
        obtain ⟨t, A5, H⟩ := H
        replace A5 := Aside0.mk A5
        by_cases c5 : t.length < 4611686018427387904
        · rw [if_pos c5] at H
          have C5 := Aside0.mk c5
          clear c5
          obtain ⟨hd, rfl⟩ := impl_EmptySets_1.del_open k t1 t r H
          have HD := Aside0.mk hd
          clear H hd
          go_enter Try.func41, Try.ntmps41
          go_wp2_with (first | ((with_reducible refine gate_dst (N := 2) rfl ?_); refine box_event ?hg (N := 2) ?hd (cs := #[.int .i64 a0_0, .string a0_1]) (t := 26) ?hr ?_; (case hd => rfl); (case hg => rfl); (case hr => first | (go_simp; done) | (go_simp; rfl)); intro g3 hg w3 hbox hb; have n0_ := Aside0.mk (below_step (by repeat (first | (with_reducible first | exact HB.out | apply below_alloc | apply pw_below_drewN | apply below_drew1) | exact HB.out)) hb); have GE3 := Aside0.mk ((by rw [hg]; exact (below_size (by repeat (first | (with_reducible first | exact HB.out | apply below_alloc | apply pw_below_drewN | apply below_drew1) | exact HB.out)))) : w.heap.size ≤ g3); have BK3 := Aside0.mk hbox; clear HB; have HB := n0_; clear n0_ hb hbox hg; have hcz3_0 : w3.cell? ⟨g3, 0, none⟩ = some (.int .i64 a0_0) := (blk_cell BK3.out 0).trans rfl; have hfz3_0 := blk_frozen BK3.out 0; have hcz3_1 : w3.cell? ⟨g3, 1, none⟩ = some (.string a0_1) := (blk_cell BK3.out 1).trans rfl; have hfz3_1 := blk_frozen BK3.out 1) | ((with_reducible refine gate_callee (f := 47) rfl ?_); refine goesL_ (some 9) rfl rfl Try.func47 (by kernel_rfl) rfl #[.agg #[.int .i64 a0_0, .string a0_1]] rfl (by (try simp only [List.map_toArray, List.map_cons, List.map_nil]); first | done | rfl | (simp only [List.length_drop, List.length_take]; rfl)) ?_; (with_reducible refine (impl_orderOf.calls k a0_0 a0_1 t1 _ _ A1.out).mono ?_); rintro e w4 ⟨v4, rfl, ho0, hb⟩; refine ⟨_, rfl, ?_⟩; have n9_ := Aside0.mk (blk_below (g := g3) (o := .cells #[.int .i64 a0_0, .string a0_1] 26 (0, 0)) (by (with_reducible repeat (first | refine blk_drewN ?_ _ | refine blk_drew ?_ | refine blk_alloc ?_ _)); exact BK3.out) hb); clear BK3; have BK3 := n9_; clear n9_; have hcz3w4_0 : w4.cell? ⟨g3, 0, none⟩ = some (.int .i64 a0_0) := (blk_cell BK3.out 0).trans rfl; have hfz3w4_0 := blk_frozen BK3.out 0; have hcz3w4_1 : w4.cell? ⟨g3, 1, none⟩ = some (.string a0_1) := (blk_cell BK3.out 1).trans rfl; have hfz3w4_1 := blk_frozen BK3.out 1; have HO4 := Aside0.mk (Kd.R_lower ho0 (below_size (by repeat (first | (with_reducible first | exact HB.out | apply below_alloc | apply pw_below_drewN | apply below_drew1) | exact HB.out)))); replace HB := bs HB hb; clear hb ho0; obtain ⟨Ao4, co4, eo4⟩ := Kd.R_slice HO4.out; subst eo4; have HO8 := Aside0.mk (Kd.R_alloc HO4.out (.cells #[.pointer Ao4] 46)); have HC8 := Aside0.mk (show (w4.alloc (.cells #[.pointer Ao4] 46)).cell? ⟨w4.heap.size, 0, none⟩ = some (.pointer Ao4) by simp); have hz8 : (w4.alloc (.cells #[.pointer Ao4] 46)).cell? ⟨g3, 0, none⟩ = some (.int .i64 a0_0) := bc (Aside0.mk (blk_alloc BK3.out _)) 0) | (go_at_call 69; (with_reducible refine (impl_chi_convexSets.calls k Ao4 co4 t1 a1 t _ (Kd.R_reads' HO8.out).2.2 (Kd.R_reads' HO8.out).2.1 A5.out).mono ?_); rintro e w9 ⟨v9, rfl, ho9, hb9⟩; have HO9 := Aside0.mk ho9; have HB9 := Aside0.mk hb9; clear ho9 hb9) | (go_at_call 72; refine (slices_DeleteFunc.calls _ (fun x => (impl_EmptySets_1.l0 k t1 x 0).getD false) t (w4.alloc (.cells #[.pointer Ao4] 46)) ?asks _ HB9.out C5.out v9 HO9.out).mono ?_; (case asks => exact fun W x hx hW => impl_EmptySets_1.calls k w4.heap.size Ao4 co4 t1 x _ W ((hW.cell (World.block_lt_of_cell? _ _ HC8.out)).trans HC8.out) (Kd.C_below (Kd.R_reads' HO8.out).2.2 hW) (Kd.R_reads' HO8.out).2.1 (HD.out x hx)); rintro e w10 ⟨v10, rfl, ho10, hb10⟩))
          go_ret
          exact ⟨_, rfl, Kd.R_lower ho10 (below_size (bl HB)), below_step (bl HB) hb10⟩
        · rw [if_neg c5] at H
          exact absurd H (by simp)
def impl_EvenSum.l0 : Nat → Int → ByteArray → Int → Int → Int → Option Int
  | 0, _, _, _, _, _ => none
  | k + 1, n, s, x, y, c => if c ≤ n then ((impl_EmptySets.f k n s c).bind fun t => impl_EvenSum.l0 k n s (wrap64 (x + wrap64 (y * (t.length : Int)))) (wrap64 (-y)) (wrap64 (c + 1))) else some x
def impl_EvenSum.f (k : Nat) (n : Int) (s : ByteArray) : Option Int := (impl_IsAcyclic.f k n s).bind fun b => if b = true then impl_EvenSum.l0 k n s 0 1 3 else some (-1)
theorem impl_EvenSum.mono_l : ∀ k, (∀ y0 y1 y2 y3 y4, LeO (impl_EvenSum.l0 k y0 y1 y2 y3 y4) (impl_EvenSum.l0 (k + 1) y0 y1 y2 y3 y4))
  | 0 => fun _ _ _ _ _ r h => by simp [impl_EvenSum.l0] at h
  | k + 1 => by
    have ih0 := impl_EvenSum.mono_l k
    intro y0 y1 y2 y3 y4
    unfold impl_EvenSum.l0
    repeat' first
      | (with_reducible exact ih0 _ _ _ _ _)
      | (with_reducible exact impl_EmptySets.mono _ _ _ _)
      | (with_reducible exact LeO.refl _)
      | (with_reducible refine LeO.ite ?_ ?_)
      | (with_reducible refine LeO.bind ?_ (fun _ => ?_))
theorem impl_EvenSum.mono : ∀ a0 a1 k, LeO (impl_EvenSum.f k a0 a1) (impl_EvenSum.f (k + 1) a0 a1) := by
  intro a0 a1 k
  have ih0 := impl_EvenSum.mono_l k
  unfold impl_EvenSum.f
  repeat' first
    | (with_reducible exact ih0 _ _ _ _ _)
    | (with_reducible exact impl_IsAcyclic.mono _ _ _)
    | (with_reducible exact LeO.refl _)
    | (with_reducible refine LeO.ite ?_ ?_)
    | (with_reducible refine LeO.bind ?_ (fun _ => ?_))
set_option maxHeartbeats 8000000 in
set_option maxRecDepth 100000 in
theorem impl_EvenSum.calls (k : Nat) (a0_0 : Int) (a0_1 : ByteArray) (r : Int) (w : World) (h : impl_EvenSum.f k a0_0 a0_1 = some r) :
    Calls Try.prog 39 #[.agg #[.int .i64 a0_0, .string a0_1]] w fun e w' => e = .returned (.int .i64 r) ∧ Below w.heap.size w w' := by
  have hu26 := Try.underlying26
  have HB := Aside0.mk (Below.refl w.heap.size w)
  have H := h
  clear h
  unfold impl_EvenSum.f at H
  replace H := Option.bind_eq_some_iff.mp H
  obtain ⟨b, A1, H⟩ := H
  replace A1 := Aside0.mk A1
  cases b with
  | false =>
    rw [if_neg (by simp)] at H
    obtain rfl := Option.some.inj H
    clear H
    go_enter Try.func39, Try.ntmps39
    go_wp2_with (first | ((with_reducible refine gate_dst (N := 1) rfl ?_); refine box_event ?hg (N := 1) ?hd (cs := #[.int .i64 a0_0, .string a0_1]) (t := 26) ?hr ?_; (case hd => rfl); (case hg => rfl); (case hr => first | (go_simp; done) | (go_simp; rfl)); intro g3 hg w3 hbox hb; have n0_ := Aside0.mk (below_step (by repeat (first | (with_reducible first | exact HB.out | apply below_alloc | apply pw_below_drewN | apply below_drew1) | exact HB.out)) hb); have GE3 := Aside0.mk ((by rw [hg]; exact (below_size (by repeat (first | (with_reducible first | exact HB.out | apply below_alloc | apply pw_below_drewN | apply below_drew1) | exact HB.out)))) : w.heap.size ≤ g3); have BK3 := Aside0.mk hbox; clear HB; have HB := n0_; clear n0_ hb hbox hg; have hcz3_0 : w3.cell? ⟨g3, 0, none⟩ = some (.int .i64 a0_0) := (blk_cell BK3.out 0).trans rfl; have hfz3_0 := blk_frozen BK3.out 0; have hcz3_1 : w3.cell? ⟨g3, 1, none⟩ = some (.string a0_1) := (blk_cell BK3.out 1).trans rfl; have hfz3_1 := blk_frozen BK3.out 1) | ((with_reducible refine gate_callee (f := 71) rfl ?_); refine goesL_ (some 7) rfl rfl Try.func71 (by kernel_rfl) rfl #[.agg #[.int .i64 a0_0, .string a0_1]] rfl (by (try simp only [List.map_toArray, List.map_cons, List.map_nil]); first | done | rfl | (simp only [List.length_drop, List.length_take]; rfl)) ?_; (with_reducible refine (impl_IsAcyclic.calls k a0_0 a0_1 _ _ A1.out).mono ?_); rintro e w4 ⟨rfl, hb⟩; refine ⟨_, rfl, ?_⟩; have n9_ := Aside0.mk (blk_below (g := g3) (o := .cells #[.int .i64 a0_0, .string a0_1] 26 (0, 0)) (by (with_reducible repeat (first | refine blk_drewN ?_ _ | refine blk_drew ?_ | refine blk_alloc ?_ _)); exact BK3.out) hb); clear BK3; have BK3 := n9_; clear n9_; have hcz3w4_0 : w4.cell? ⟨g3, 0, none⟩ = some (.int .i64 a0_0) := (blk_cell BK3.out 0).trans rfl; have hfz3w4_0 := blk_frozen BK3.out 0; have hcz3w4_1 : w4.cell? ⟨g3, 1, none⟩ = some (.string a0_1) := (blk_cell BK3.out 1).trans rfl; have hfz3w4_1 := blk_frozen BK3.out 1; replace HB := bs HB hb; clear hb))
    go_ret
    exact ⟨rfl, bl HB⟩
  | true =>
    rw [if_pos rfl] at H
    have H' := Aside0.mk H
    clear H
    go_enter Try.func39, Try.ntmps39
    go_wp2_with (first | ((with_reducible refine gate_dst (N := 1) rfl ?_); refine box_event ?hg (N := 1) ?hd (cs := #[.int .i64 a0_0, .string a0_1]) (t := 26) ?hr ?_; (case hd => rfl); (case hg => rfl); (case hr => first | (go_simp; done) | (go_simp; rfl)); intro g3 hg w3 hbox hb; have n0_ := Aside0.mk (below_step (by repeat (first | (with_reducible first | exact HB.out | apply below_alloc | apply pw_below_drewN | apply below_drew1) | exact HB.out)) hb); have GE3 := Aside0.mk ((by rw [hg]; exact (below_size (by repeat (first | (with_reducible first | exact HB.out | apply below_alloc | apply pw_below_drewN | apply below_drew1) | exact HB.out)))) : w.heap.size ≤ g3); have BK3 := Aside0.mk hbox; clear HB; have HB := n0_; clear n0_ hb hbox hg; have hcz3_0 : w3.cell? ⟨g3, 0, none⟩ = some (.int .i64 a0_0) := (blk_cell BK3.out 0).trans rfl; have hfz3_0 := blk_frozen BK3.out 0; have hcz3_1 : w3.cell? ⟨g3, 1, none⟩ = some (.string a0_1) := (blk_cell BK3.out 1).trans rfl; have hfz3_1 := blk_frozen BK3.out 1) | ((with_reducible refine gate_callee (f := 71) rfl ?_); refine goesL_ (some 7) rfl rfl Try.func71 (by kernel_rfl) rfl #[.agg #[.int .i64 a0_0, .string a0_1]] rfl (by (try simp only [List.map_toArray, List.map_cons, List.map_nil]); first | done | rfl | (simp only [List.length_drop, List.length_take]; rfl)) ?_; (with_reducible refine (impl_IsAcyclic.calls k a0_0 a0_1 _ _ A1.out).mono ?_); rintro e w4 ⟨rfl, hb⟩; refine ⟨_, rfl, ?_⟩; have n9_ := Aside0.mk (blk_below (g := g3) (o := .cells #[.int .i64 a0_0, .string a0_1] 26 (0, 0)) (by (with_reducible repeat (first | refine blk_drewN ?_ _ | refine blk_drew ?_ | refine blk_alloc ?_ _)); exact BK3.out) hb); clear BK3; have BK3 := n9_; clear n9_; have hcz3w4_0 : w4.cell? ⟨g3, 0, none⟩ = some (.int .i64 a0_0) := (blk_cell BK3.out 0).trans rfl; have hfz3w4_0 := blk_frozen BK3.out 0; have hcz3w4_1 : w4.cell? ⟨g3, 1, none⟩ = some (.string a0_1) := (blk_cell BK3.out 1).trans rfl; have hfz3w4_1 := blk_frozen BK3.out 1; replace HB := bs HB hb; clear hb))
    go_loopg [3, 4, 5] k (fun kq v3 v4 v5 w' => ∃ (x y c : Int), v3 = .int .i64 x ∧ v4 = .int .i64 y ∧ v5 = .int .i64 c ∧ Aside0 (impl_EvenSum.l0 kq a0_0 a0_1 x y c = some r) ∧ Aside0 (kq ≤ k) ∧ Aside0 (w'.heap[g3]? = some (.cells #[.int .i64 a0_0, .string a0_1] 26 (0, 0))) ∧ Aside0 (Below w.heap.size w w'))
    case atStart => exact ⟨0, 1, 3, rfl, rfl, rfl, H', ⟨Nat.le_refl _⟩, BK3, HB⟩
    case round =>
      clear H' HB BK3 hcz3_0 hcz3_1 hcz3w4_0 hcz3w4_1 hfz3_0 hfz3_1 hfz3w4_0 hfz3w4_1
      obtain ⟨x, y, c, rfl, rfl, rfl, HA, HK1, BK3, HB⟩ := hrel
      have hz0 := bc BK3 0
      have hz1 := bc BK3 1
      cases gk with
      | zero => exact absurd HA.out (by simp [impl_EvenSum.l0])
      | succ k1 =>
        have H := HA.out
        clear HA
        simp only [impl_EvenSum.l0] at H
        by_cases c5 : c ≤ a0_0
        · rw [if_pos c5] at H
          have c5b : decide (c ≤ a0_0) = true := decide_eq_true c5
          clear c5
          replace H := Option.bind_eq_some_iff.mp H
          obtain ⟨t, A5, H⟩ := H
          replace A5 := Aside0.mk A5
          have H' := Aside0.mk H
          clear H
          go_wp2_with (first | ((with_reducible refine gate_callee (f := 41) rfl ?_); refine goesL_ (some 19) rfl rfl Try.func41 (by kernel_rfl) rfl #[.agg #[.int .i64 a0_0, .string a0_1], .int .i64 c] rfl (by (try simp only [List.map_toArray, List.map_cons, List.map_nil]); first | done | rfl | (simp only [List.length_drop, List.length_take]; rfl)) ?_; (with_reducible refine (impl_EmptySets.calls k1 a0_0 a0_1 c t _ A5.out).mono ?_); rintro e w6 ⟨v6, rfl, ho6, hb6⟩; refine ⟨_, rfl, ?_⟩; obtain ⟨Ao6, co6, eo6⟩ := Kd.R_slice ho6; subst eo6; have BK6 := Aside0.mk (blk_below BK3.out hb6); have HB6 := bs HB hb6; clear hb6 ho6))
          go_roundg k1
          case measure => have := HK1.out; omega
          case rel => exact ⟨_, _, _, (by first | rfl | (simp; done) | (simp [*]; done)), (by first | rfl | (simp; done) | (simp [*]; done)), (by first | rfl | (simp; done) | (simp [*]; done)), H', ⟨by have := HK1.out; omega⟩, BK6, HB6⟩
        · rw [if_neg c5] at H
          have c5b : decide (c ≤ a0_0) = false := decide_eq_false c5
          clear c5
          obtain rfl := Option.some.inj H
          clear H
          go_wp2
          go_ret
          exact ⟨rfl, bl HB⟩

end Go.Proofs.Ytjjfjdejhddcnaa.P
