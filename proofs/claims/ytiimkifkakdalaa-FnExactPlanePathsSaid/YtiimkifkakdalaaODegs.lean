/- impl.hasDegrees, and the library's IndexFunc and ContainsFunc with its closure: what a call of them computes. Conditions: none. -/
import Derived.Test.YtiimkifkakdalaaOIxP
import Derived.Test.YtiimkifkakdalaaP73
import Derived.Lib.SliceRun
namespace Go.Proofs.Ytiimkifkakdalaa.P
open Go.RowKit Go.Proofs.YtiimkifkakdalaaW.PrintWords Go.Proofs.YtiimkifkakdalaaW.PrintLast Go.Proofs.YtiimkifkakdalaaW.PrintMore
set_option linter.unusedVariables false
set_option linter.unusedSimpArgs false

/-- What is asked of a closure: at each number of the list, in each world in which the blocks of W0 lie unturned. -/
def DegAsks (cap cap2 : Value) (p : Int → Bool) (xs : List Int) (W0 : World) : Prop :=
  ∀ (W : World) (x : Int), x ∈ xs → Below W0.heap.size W0 W → Calls Try.prog 74 #[.int .i64 x, cap, cap2] W fun e W' => e = .returned (.bool (p x)) ∧ Below W.heap.size W W'
set_option maxHeartbeats 8000000 in
set_option maxRecDepth 100000 in
theorem hdg_IndexFunc.calls (cap cap2 : Value) (p : Int → Bool) (xs : List Int) (W0 : World) (hcl : DegAsks cap cap2 p xs W0) (w : World) (hb : Below W0.heap.size W0 w) (hlen : xs.length < 4611686018427387904) (A : Option Addr) (c : Nat) (hC : Kd.C (Kd.int .i64) w A xs.length xs) :
    Calls Try.prog 75 #[.slice A xs.length c, .func (.func 74) #[] #[cap, cap2]] w fun e w' => e = .returned (.int .i64 (dIx p xs 0)) ∧ Below w.heap.size w w' := by
  have HB := Aside0.mk (Below.refl w.heap.size w)
  have HW := Aside0.mk hb
  have HC := Aside0.mk hC
  have HF := Aside0.mk hcl
  clear hb hC hcl
  go_enter Try.func75, Try.ntmps75
  go_wp2
  go_loopg [5, 8] xs.length (fun gg _ v8 w' => ∃ i : Nat, v8 = .int .i64 i ∧ i ≤ xs.length ∧ xs.length - i ≤ gg ∧ Aside0 (dIx p (xs.drop i) i = dIx p xs 0) ∧ Aside0 (Below w.heap.size w w'))
  case atStart => exact ⟨0, rfl, Nat.zero_le _, by omega, ⟨rfl⟩, HB⟩
  case round =>
    obtain ⟨i, rfl, hi, hg, HI, HB0⟩ := hrel
    by_cases hlt : i < xs.length
    · have c4 : decide ((i : Int) < (xs.length : Int)) = true := decide_eq_true (by omega)
      have c5 : ((i : Int) < (xs.length : Int)) = True := eq_true (by omega)
      have c6 : (0 ≤ (i : Int)) = True := eq_true (by omega)
      obtain ⟨ad, he, hx⟩ := Kd.at_int (Kd.C_below HC.out HB0.out) (i : Int) (by omega) (by omega)
      cases he
      have hcall := HF.out _ (rd xs (i : Int)) (rd_mem xs i hlt) (below_step HW.out HB0.out)
      have HE := HI.out
      rw [dIx_drop p xs i hlt] at HE
      obtain ⟨z, hz⟩ : ∃ z : Int, (i : Int) = z := ⟨_, rfl⟩
      rw [hz] at c4 c5 c6 hx hcall HE ⊢
      have HZ := Aside0.mk (And.intro hz (And.intro hi (And.intro hg hlt)))
      clear hz hi hg hlt
      cases hq : p (rd xs z) with
      | true =>
        rw [hq] at hcall HE
        rw [if_pos rfl] at HE
        replace HE := Aside0.mk HE
        clear hq
        go_wp2_with (first | (go_at_call 74; refine hcall.mono ?_; rintro e w6 ⟨rfl, hb6⟩))
        go_ret
        exact ⟨by rw [HE.out]; rfl, below_step HB0.out hb6⟩
      | false =>
        rw [hq] at hcall HE
        rw [if_neg (by simp)] at HE
        replace HE := Aside0.mk HE
        clear hq
        go_wp2_with (first | (go_at_call 74; refine hcall.mono ?_; rintro e w6 ⟨rfl, hb6⟩))
        go_roundg (xs.length - (i + 1))
        case measure => have := HZ.out; omega
        case rel => exact ⟨i + 1, by have := HZ.out; rw [← this.1, w_succ i (by omega)], by have := HZ.out; omega, by have := HZ.out; omega, HE, ⟨below_step HB0.out hb6⟩⟩
    · have c4 : decide ((i : Int) < (xs.length : Int)) = false := decide_eq_false (by omega)
      obtain rfl : i = xs.length := by omega
      have HE := HI.out
      rw [List.drop_of_length_le (Nat.le_refl _)] at HE
      replace HE := Aside0.mk HE
      go_wp2
      go_ret
      exact ⟨by rw [← HE.out]; rfl, HB0.out⟩
set_option maxHeartbeats 8000000 in
set_option maxRecDepth 100000 in
theorem hdg_ContainsFunc.calls (cap cap2 : Value) (p : Int → Bool) (xs : List Int) (W0 : World) (hcl : DegAsks cap cap2 p xs W0) (w : World) (hb : Below W0.heap.size W0 w) (hlen : xs.length < 4611686018427387904) (A : Option Addr) (c : Nat) (hC : Kd.C (Kd.int .i64) w A xs.length xs) :
    Calls Try.prog 72 #[.slice A xs.length c, .func (.func 74) #[] #[cap, cap2]] w fun e w' => e = .returned (.bool (decide (0 ≤ dIx p xs 0))) ∧ Below w.heap.size w w' := by
  have HW := Aside0.mk hb
  have HC := Aside0.mk hC
  have HF := Aside0.mk hcl
  have HL := Aside0.mk hlen
  clear hb hC hcl hlen
  go_enter Try.func72, Try.ntmps72
  go_wp2_with (first | (go_at_call 75; refine (hdg_IndexFunc.calls cap cap2 p xs W0 HF.out _ HW.out HL.out A c HC.out).mono ?_; rintro e w6 ⟨rfl, hb6⟩; have HB6 := Aside0.mk hb6; clear hb6))
  go_ret
  exact ⟨rfl, HB6.out⟩
/-- Whether a degree lies outside the bounds. -/
def degOut (a b d : Int) : Bool := decide (d < a) || decide (b < d)
set_option maxHeartbeats 8000000 in
set_option maxRecDepth 100000 in
theorem hasDegrees_1.calls (ga gb : Nat) (a b x : Int) (W : World) (ha : W.cell? ⟨ga, 0, none⟩ = some (.int .i64 a)) (hb : W.cell? ⟨gb, 0, none⟩ = some (.int .i64 b)) :
    Calls Try.prog 74 #[.int .i64 x, .pointer (some ⟨ga, 0, none⟩), .pointer (some ⟨gb, 0, none⟩)] W fun e W' => e = .returned (.bool (degOut a b x)) ∧ Below W.heap.size W W' := by
  have HB := Aside0.mk (Below.refl W.heap.size W)
  unfold degOut
  by_cases c1 : x < a
  · have c1b : decide (x < a) = true := decide_eq_true c1
    clear c1
    go_enter Try.func74, Try.ntmps74
    go_wp2
    go_ret
    exact ⟨by rw [c1b]; rfl, bl HB⟩
  · have c1b : decide (x < a) = false := decide_eq_false c1
    clear c1
    go_enter Try.func74, Try.ntmps74
    go_wp2
    go_ret
    exact ⟨by rw [c1b]; rfl, bl HB⟩
def impl_hasDegrees.f (k : Nat) (n e a b : Int) : Option Bool := (impl_degrees.f k n e).bind fun l => if l.length < 4611686018427387904 then some (!(decide (0 ≤ dIx (degOut a b) l 0))) else none
theorem impl_hasDegrees.mono : ∀ a0 a1 a2 a3 k, LeO (impl_hasDegrees.f k a0 a1 a2 a3) (impl_hasDegrees.f (k + 1) a0 a1 a2 a3) := by
  intro a0 a1 a2 a3 k
  unfold impl_hasDegrees.f
  exact LeO.bind (impl_degrees.mono _ _ _) (fun _ => LeO.refl _)
set_option maxHeartbeats 8000000 in
set_option maxRecDepth 100000 in
theorem impl_hasDegrees.calls (k : Nat) (n e a b : Int) (r : Bool) (w : World) (h : impl_hasDegrees.f k n e a b = some r) :
    Calls Try.prog 41 #[.int .i64 n, .int .i64 e, .int .i64 a, .int .i64 b] w fun e w' => e = .returned (.bool r) ∧ Below w.heap.size w w' := by
  have hmf : ∀ (fn : Fn) (first cap : Array Value) (w : World), (Instr.makeFunc fn first cap).run Try.prog w = .ok (.func fn first cap) w := fun _ _ _ _ => rfl
  have HB := Aside0.mk (Below.refl w.heap.size w)
  unfold impl_hasDegrees.f at h
  obtain ⟨l, A1, H⟩ := Option.bind_eq_some_iff.mp h
  replace A1 := Aside0.mk A1
  clear h
  by_cases c5 : l.length < 4611686018427387904
  · rw [if_pos c5] at H
    have C5 := Aside0.mk c5
    clear c5
    obtain rfl := Option.some.inj H
    clear H
    go_enter Try.func41, Try.ntmps41
    go_wp2_with (first | ((with_reducible refine gate_dst (N := 6) rfl ?_); refine box_event ?hg (N := 6) ?hd (cs := #[.int .i64 a]) (t := 3) ?hr ?_; (case hd => rfl); (case hg => rfl); (case hr => first | (go_simp; done) | (go_simp; rfl)); intro g3 hg w3 hbox hb; have n0_ := Aside0.mk (below_step (by repeat (first | (with_reducible first | exact HB.out | apply below_alloc | apply pw_below_drewN | apply below_drew1) | exact HB.out)) hb); have GE3 := Aside0.mk ((by rw [hg]; exact (below_size (by repeat (first | (with_reducible first | exact HB.out | apply below_alloc | apply pw_below_drewN | apply below_drew1) | exact HB.out)))) : w.heap.size ≤ g3); have BK3 := Aside0.mk hbox; clear HB; have HB := n0_; clear n0_ hb hbox hg; have hcz3_0 : w3.cell? ⟨g3, 0, none⟩ = some (.int .i64 a) := (blk_cell BK3.out 0).trans rfl; have hfz3_0 := blk_frozen BK3.out 0) | ((with_reducible refine gate_dst (N := 7) rfl ?_); refine box_event ?hg (N := 7) ?hd (cs := #[.int .i64 b]) (t := 3) ?hr ?_; (case hd => rfl); (case hg => rfl); (case hr => first | (go_simp; done) | (go_simp; rfl)); intro g4 hg w4 hbox hb; have n8_ := Aside0.mk (blk_below (by (with_reducible repeat (first | refine blk_drewN ?_ _ | refine blk_drew ?_ | refine blk_alloc ?_ _)); exact BK3.out) hb); clear BK3; have BK3 := n8_; clear n8_; have n0_ := Aside0.mk (below_step (by repeat (first | (with_reducible first | exact HB.out | apply below_alloc | apply pw_below_drewN | apply below_drew1) | exact HB.out)) hb); have GE4 := Aside0.mk ((by rw [hg]; exact (below_size (by repeat (first | (with_reducible first | exact HB.out | apply below_alloc | apply pw_below_drewN | apply below_drew1) | exact HB.out)))) : w.heap.size ≤ g4); have BK4 := Aside0.mk hbox; clear HB; have HB := n0_; clear n0_ hb hbox hg; have hcz4_0 : w4.cell? ⟨g4, 0, none⟩ = some (.int .i64 b) := (blk_cell BK4.out 0).trans rfl; have hfz4_0 := blk_frozen BK4.out 0) | (go_at_call 73; (with_reducible refine (impl_degrees.calls k n e l _ A1.out).mono ?_); rintro e w5 ⟨v5, rfl, ho5, hb5⟩; have HO5 := Aside0.mk ho5; have BK35 := Aside0.mk (blk_below BK3.out hb5); have BK45 := Aside0.mk (blk_below BK4.out hb5); replace HB := bs HB hb5; clear ho5 hb5; obtain ⟨A5, c5, e5⟩ := Kd.R_slice HO5.out; subst e5) | (go_at_call 72; refine (hdg_ContainsFunc.calls (.pointer (some ⟨g3, 0, none⟩)) (.pointer (some ⟨g4, 0, none⟩)) (degOut a b) l w5 ?asks _ (Below.refl _ _) C5.out A5 c5 (Kd.R_reads' HO5.out).2.2).mono ?_; (case asks => exact fun W x hx hW => hasDegrees_1.calls g3 g4 a b x W (bc (Aside0.mk (blk_below BK35.out hW)) 0) (bc (Aside0.mk (blk_below BK45.out hW)) 0)); rintro e w6 ⟨rfl, hb6⟩))
    go_ret
    exact ⟨rfl, below_step HB.out hb6⟩
  · rw [if_neg c5] at H
    exact absurd H (by simp)
end Go.Proofs.Ytiimkifkakdalaa.P
