/- spec.BraidsFrom: what a call of it computes. Conditions: none. -/
import Derived.Test.YthibphndihjcaaaWAll2
import Derived.Test.YthibphndihjcaaaOPut
import Derived.Test.YthibphndihjcaaaOWhen
import Derived.Test.YthibphndihjcaaaP73
import Derived.Test.YthibphndihjcaaaP18
import Derived.Test.YthibphndihjcaaaP38
namespace Go.Proofs.Ythibphndihjcaaa.P
open Go.RowKit Go.Proofs.YthibphndihjcaaaW.PrintWords Go.Proofs.YthibphndihjcaaaW.PrintLast Go.Proofs.YthibphndihjcaaaW.PrintMore
set_option linter.unusedVariables false
set_option linter.unusedSimpArgs false

def spec_BraidsFrom.l0 : Nat → Int → ByteArray → Bool → List (List Int) → Int → Option (List (List Int))
  | 0, _, _, _, _, _ => none
  | k + 1, n, s, ok, out, i => if i < (s.size : Int) then (if ok = true then ((spec_l14Exchange.f n s i).bind fun x => (spec_WiringOfSigns.f k x.1 x.2).bind fun q => if q.2 = true then ((spec_l14Put.f k out q.1).bind fun o => spec_BraidsFrom.l0 k n s ok o (wrap64 (i + 1))) else spec_BraidsFrom.l0 k n s ok out (wrap64 (i + 1))) else some out) else some out
def spec_BraidsFrom.f (k : Nat) (a0 : Int) (l : List Int) : Option (List (List Int)) := (spec_SignsOfWiring.f k a0 l).bind fun r => spec_BraidsFrom.l0 k r.1 r.2.1 r.2.2 [] 0
theorem spec_BraidsFrom.mono_l : ∀ k, (∀ y0 y1 y2 y3 y4, LeO (spec_BraidsFrom.l0 k y0 y1 y2 y3 y4) (spec_BraidsFrom.l0 (k + 1) y0 y1 y2 y3 y4))
  | 0 => fun _ _ _ _ _ r h => by simp [spec_BraidsFrom.l0] at h
  | k + 1 => by
    have ih0 := spec_BraidsFrom.mono_l k
    intro y0 y1 y2 y3 y4
    unfold spec_BraidsFrom.l0
    repeat' first
      | (with_reducible exact ih0 _ _ _ _ _)
      | (with_reducible exact spec_WiringOfSigns.mono _ _ _)
      | (with_reducible exact spec_l14Put.mono _ _ _)
      | (with_reducible exact LeO.refl _)
      | (with_reducible refine LeO.ite ?_ ?_)
      | (with_reducible refine LeO.bind ?_ (fun _ => ?_))
theorem spec_BraidsFrom.mono : ∀ a0 a1 k, LeO (spec_BraidsFrom.f k a0 a1) (spec_BraidsFrom.f (k + 1) a0 a1) := by
  intro a0 a1 k
  unfold spec_BraidsFrom.f
  exact LeO.bind (spec_SignsOfWiring.mono _ _ _) (fun _ => spec_BraidsFrom.mono_l k _ _ _ _ _)
set_option maxHeartbeats 8000000 in
set_option maxRecDepth 100000 in
theorem spec_BraidsFrom.calls (k : Nat) (a0 : Int) (A1 : Option Addr) (c1 : Nat) (l1 : List Int) (r : List (List Int)) (w : World) (hr1 : Kd.C (Kd.int .i64) w A1 l1.length l1) (hc1 : l1.length ≤ c1) (h : spec_BraidsFrom.f k a0 l1 = some r) :
    Calls Try.prog 44 #[.int .i64 a0, .slice A1 l1.length c1] w fun e w' => ∃ v : Value, e = .returned v ∧ Kd.S (Kd.slice 3 (Kd.int .i64)) 22 w' w.heap.size (fun _ => True) v r ∧ Below w.heap.size w w' := by
  have hu28 := Try.underlying28
  have HR1 := Aside0.mk hr1
  have HC1 := Aside0.mk hc1
  unfold spec_BraidsFrom.f at h
  obtain ⟨⟨s1, s2, s3⟩, AS, H⟩ := Option.bind_eq_some_iff.mp h
  replace AS := Aside0.mk AS
  simp only at H
  have H' := Aside0.mk H
  clear h hr1 hc1 H
  go_enter Try.func44, Try.ntmps44
  go_wp2_with (first | ((with_reducible refine gate_dst (N := 11) rfl ?_); refine Kd.S_lit (Kd.slice 3 (Kd.int .i64)) _ 22 ?hg (N := 11) ?hd (xs := ([] : List (List Int))) (inner := []) (ok := fun _ => True) (okp := fun _ => True) ?hr ?hp (fun _ hk => hk) trivial (Below.refl _ _) (Nat.le_refl _) (by simp) ?_; (case hd => rfl); (case hg => rfl); (case hr => first | (go_simp; done) | (go_simp; rfl)); (case hp => exact (Reps.none _ _)); intro v11 w11 ho hb hg_ hnew_; clear hg_ hnew_; have HS := Aside0.mk ho; have HB := Aside0.mk hb; clear ho hb) | (go_at_call 18; (with_reducible refine (spec_SignsOfWiring.calls k a0 A1 c1 l1 s1 s2 s3 _ (Kd.C_below HR1.out HB.out) HC1.out AS.out).mono ?_); rintro e w4 ⟨rfl, hb⟩; have n0_ := Aside0.mk (Kd.S_below HS.out hb); have n1_ := Aside0.mk (below_then HB.out (below_size HB.out) hb); clear HS HB hb; have HS := n0_; have HB := n1_; clear n0_ n1_) | ((with_reducible refine gate_dst (N := 6) rfl ?_); refine bx 6 #[.int .i64 0, .string (⟨#[]⟩ : ByteArray)] 28 ?_; intro g6 hg w6 hbox hb; have BK6 := Aside0.mk hbox; have GE6 := Aside0.mk (show w.heap.size ≤ g6 by rw [hg]; exact below_size HB.out); have n0_ := Aside0.mk (Kd.S_elderB HS.out g6 (by rw [hg]; exact Nat.le_refl _)); have n1_ := Aside0.mk (below_then HB.out (below_size HB.out) hb); have n2_ := Aside0.mk (Kd.S_below n0_.out hb); clear HS HB hb hbox hg n0_; have HS := n2_; have HB := n1_; clear n1_ n2_) | ((with_reducible refine gate_store (t := 28) (p := 6) rfl ?_); refine wpList_store_row rfl 28 (.tmp 6) (.tmp 16) rfl g6 #[.int .i64 s1, .string s2] rfl rfl 28 _ BK6.out (by kernel_rfl) rfl (by simp [Value.oneCell']) ?_; have n0_ := Aside0.mk (setRow_heap _ g6 _ #[.int .i64 s1, .string s2] _ _ BK6.out); have n1_ := Aside0.mk (Kd.S_step HS.out (fun k ho _ => setRow_other w6 g6 k #[.int .i64 s1, .string s2] ho.2)); have n2_ := Aside0.mk (below_setRow HB.out GE6.out #[.int .i64 s1, .string s2]); clear BK6 HB HS; generalize w6.setRow g6 #[.int .i64 s1, .string s2] = w7 at n0_ n1_ n2_ ⊢; have BK6 := n0_; have HS := n1_; have HB := n2_; clear n0_ n1_ n2_))
  go_loopg [5, 8] k (fun kq v5 v8 w' => ∃ (out : List (List Int)) (i : Int), v8 = .int .i64 i ∧ Aside0 (spec_BraidsFrom.l0 kq s1 s2 s3 out i = some r) ∧ Aside0 (kq ≤ k) ∧ Aside0 (Kd.S (Kd.slice 3 (Kd.int .i64)) 22 w' w.heap.size (fun k => True ∧ k ≠ g6) v5 out) ∧ Aside0 (w'.heap[g6]? = some (.cells #[.int .i64 s1, .string s2] 28 (0, 0))) ∧ Aside0 (Below w.heap.size w w'))
  case atStart => exact ⟨[], 0, rfl, H', ⟨Nat.le_refl _⟩, HS, BK6, HB⟩
  case round =>
    clear H' HS HB BK6
    obtain ⟨out, i, rfl, HA, HK1, HS, BK6, HB⟩ := hrel
    have hc0 := bc BK6 0
    have hc1 := bc BK6 1
    cases gk with
    | zero => exact absurd HA.out (by simp [spec_BraidsFrom.l0])
    | succ k1 =>
      have H := HA.out
      clear HA
      simp only [spec_BraidsFrom.l0] at H
      by_cases c10 : i < (s2.size : Int)
      case neg =>
        rw [if_neg c10] at H
        have c10b : decide (i < (s2.size : Int)) = false := decide_eq_false c10
        obtain rfl := Option.some.inj H
        clear H c10
        go_wp2
        go_ret
        exact ⟨_, rfl, Kd.S_mono HS.out (fun _ _ => trivial), HB.out⟩
      case pos =>
        rw [if_pos c10] at H
        have c10b : decide (i < (s2.size : Int)) = true := decide_eq_true c10
        cases s3 with
        | false =>
          rw [if_neg (by simp)] at H
          obtain rfl := Option.some.inj H
          clear H c10
          go_wp2
          go_ret
          exact ⟨_, rfl, Kd.S_mono HS.out (fun _ _ => trivial), HB.out⟩
        | true =>
          rw [if_pos rfl] at H
          obtain ⟨⟨x1, x2⟩, AX, H⟩ := Option.bind_eq_some_iff.mp H
          obtain ⟨⟨q1, q2⟩, AW, H⟩ := Option.bind_eq_some_iff.mp H
          replace AX := Aside0.mk AX
          replace AW := Aside0.mk AW
          simp only at H
          cases q2 with
          | false =>
            rw [if_neg (by simp)] at H
            have H' := Aside0.mk H
            clear H c10
            go_wp2_with (first | (go_at_call 73; (with_reducible refine (spec_l14Exchange.calls s1 s2 i x1 x2 _ AX.out).mono ?_); rintro e w8 ⟨rfl, hb⟩; have n0_ := Aside0.mk (Kd.S_old HS.out hb); have n1_ := Aside0.mk (below_then HB.out (below_size HB.out) hb); have n2_ := Aside0.mk (blk_below BK6.out hb); clear HS HB BK6 hb hc0 hc1; have HS := Aside0.mk (Kd.S_mono n0_.out (ok' := fun k => True ∧ k ≠ g6) (fun k hk => hk.1)); have HB := n1_; have BK6 := n2_; clear n0_ n1_ n2_) | (go_at_call 38; (with_reducible refine (spec_WiringOfSigns.calls k1 x1 x2 q1 _ _ AW.out).mono ?_); rintro e w9 ⟨v9, rfl, ho, hb⟩; have HQ := Aside0.mk ho; have HQL := Aside0.mk (Nat.le_refl w8.heap.size); have HSo := Aside0.mk (Kd.S_old HS.out hb); have HW9 := Aside0.mk (Nat.le_trans (below_size HB.out) (Nat.le_refl _)); have n1_ := Aside0.mk (below_then HB.out (below_size HB.out) hb); have n2_ := Aside0.mk (blk_below BK6.out hb); have L9 := Aside0.mk (show g6 < w8.heap.size from blk_lt BK6.out); clear HS HB BK6 hb ho; have HB := n1_; have BK6 := n2_; clear n1_ n2_))
            go_roundg k1
            case measure => have := HK1.out; omega
            case rel => exact ⟨out, _, by first | rfl | (simp; done), H', ⟨by have := HK1.out; omega⟩, ⟨Kd.S_mono HSo.out (fun k hk => hk.1)⟩, BK6, HB⟩
          | true =>
            rw [if_pos rfl] at H
            obtain ⟨o2, AP, H⟩ := Option.bind_eq_some_iff.mp H
            replace AP := Aside0.mk AP
            have H' := Aside0.mk H
            clear H c10
            go_wp2_with (first | (go_at_call 73; (with_reducible refine (spec_l14Exchange.calls s1 s2 i x1 x2 _ AX.out).mono ?_); rintro e w8 ⟨rfl, hb⟩; have n0_ := Aside0.mk (Kd.S_old HS.out hb); have n1_ := Aside0.mk (below_then HB.out (below_size HB.out) hb); have n2_ := Aside0.mk (blk_below BK6.out hb); clear HS HB BK6 hb hc0 hc1; have HS := Aside0.mk (Kd.S_mono n0_.out (ok' := fun k => True ∧ k ≠ g6) (fun k hk => hk.1)); have HB := n1_; have BK6 := n2_; clear n0_ n1_ n2_) | (go_at_call 38; (with_reducible refine (spec_WiringOfSigns.calls k1 x1 x2 q1 _ _ AW.out).mono ?_); rintro e w9 ⟨v9, rfl, ho, hb⟩; have HQ := Aside0.mk ho; have HQL := Aside0.mk (Nat.le_refl w8.heap.size); have HSo := Aside0.mk (Kd.S_old HS.out hb); have HW9 := Aside0.mk (Nat.le_trans (below_size HB.out) (Nat.le_refl _)); have n1_ := Aside0.mk (below_then HB.out (below_size HB.out) hb); have n2_ := Aside0.mk (blk_below BK6.out hb); have L9 := Aside0.mk (show g6 < w8.heap.size from blk_lt BK6.out); clear HS HB BK6 hb ho; have HB := n1_; have BK6 := n2_; clear n1_ n2_) | (go_at_call 74; (with_reducible refine (spec_l14Put.calls k1 u5 v9 out q1 o2 w _ (fun k => (True ∧ k ≠ g6) ∧ k < w8.heap.size) (fun k => w8.heap.size ≤ k) HB.out HSo.out (Kd.R_lower (Kd.R_mono (Kd.R_bound HQ.out) (fun k hk => hk.2.1)) HW9.out) (fun k hk hn => by have := hn.2; omega) AP.out).mono ?_); rintro e w10 ⟨v10, rfl, ho, hb, hk⟩; have n0_ := Aside0.mk (Kd.S_mono ho (ok' := fun k => True ∧ k ≠ g6) (fun k hk => ⟨trivial, fun he => by have := L9.out; subst he; rcases hk with h | h | h <;> first | exact h.1.2 rfl | (have h2 := h; have h3 := blk_lt BK6.out; omega)⟩)); have n1_ := Aside0.mk hb; have n2_ := Aside0.mk (blk_kept BK6.out hk (fun h => h.1.2 rfl)); clear HB BK6 HSo ho hb hk; have HS := n0_; have HB := n1_; have BK6 := n2_; clear n0_ n1_ n2_))
            go_roundg k1
            case measure => have := HK1.out; omega
            case rel => exact ⟨o2, _, by first | rfl | (simp; done), H', ⟨by have := HK1.out; omega⟩, HS, BK6, HB⟩

end Go.Proofs.Ythibphndihjcaaa.P
