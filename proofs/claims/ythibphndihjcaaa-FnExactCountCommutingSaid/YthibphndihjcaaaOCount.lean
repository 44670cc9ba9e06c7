/- impl.CountCommuting: what a call of it computes. Conditions: none. -/
import Derived.Test.YthibphndihjcaaaOCm
import Derived.Test.YthibphndihjcaaaOWsg
import Derived.Test.YthibphndihjcaaaOSigns
namespace Go.Proofs.Ythibphndihjcaaa.P
open Go.RowKit Go.Proofs.YthibphndihjcaaaW.PrintWords Go.Proofs.YthibphndihjcaaaW.PrintLast Go.Proofs.YthibphndihjcaaaW.PrintMore
set_option linter.unusedVariables false
set_option linter.unusedSimpArgs false

def cmCond (n : Int) (T ws : List Int) : Prop := 344 ≤ T.length ∧ n = (n.toNat : Int) ∧ rd T 0 = (n.toNat : Int) ∧ 3 ≤ n.toNat ∧ n.toNat ≤ 6 ∧ ws.length = n.toNat ∧ ∀ x ∈ ws, 0 ≤ x ∧ x < 6
instance (n : Int) (T ws : List Int) : Decidable (cmCond n T ws) := by unfold cmCond; infer_instance
def impl_CountCommuting.f (k : Nat) (a0 : Int) (l1 : List Int) : Option Int := (impl_SignsOfWiring.f k a0 l1).bind fun r => if r.2.2 = true then (impl_tableOf.f k r.1 r.2.1).bind fun T => (impl_upTo.f k a0).bind fun ws => if cmCond a0 T ws then (cm.f k a0.toNat T ws (List.replicate 36 false) []).bind fun x => some x.1 else none else some (-1)
theorem impl_CountCommuting.mono : ∀ a0 a1 k, LeO (impl_CountCommuting.f k a0 a1) (impl_CountCommuting.f (k + 1) a0 a1) := by
  intro a0 a1 k
  unfold impl_CountCommuting.f
  refine LeO.bind (impl_SignsOfWiring.mono _ _ _) (fun _ => LeO.ite ?_ (LeO.refl _))
  refine LeO.bind (impl_tableOf.mono _ _ _) (fun _ => LeO.bind (impl_upTo.mono _ _) (fun _ => LeO.ite ?_ (LeO.refl _)))
  exact LeO.bind ((cm.mono_l k).1 _ _ _ _ _) (fun _ => LeO.refl _)
set_option maxHeartbeats 8000000 in
set_option maxRecDepth 100000 in
theorem impl_CountCommuting.calls (k : Nat) (a0 : Int) (A1 : Option Addr) (c1 : Nat) (l1 : List Int) (r : Int) (w : World) (hr1 : Kd.C (Kd.int .i64) w A1 l1.length l1) (hc1 : l1.length ≤ c1) (h : impl_CountCommuting.f k a0 l1 = some r) :
    Calls Try.prog 43 #[.int .i64 a0, .slice A1 l1.length c1] w fun e w' => e = .returned (.int .i64 r) ∧ Below w.heap.size w w' := by
  have hu28 := Try.underlying28
  have hmm := @run_makeMap Try.prog
  have HR1 := Aside0.mk hr1
  have HC1 := Aside0.mk hc1
  unfold impl_CountCommuting.f at h
  obtain ⟨⟨s1, s2, s3⟩, AS, H⟩ := Option.bind_eq_some_iff.mp h
  replace AS := Aside0.mk AS
  clear h hr1 hc1
  simp only at H
  cases s3 with
  | false =>
    rw [if_neg (by simp)] at H
    cases H
    go_enter Try.func43, Try.ntmps43
    go_wp2_with (first | (go_at_call 19; (with_reducible refine (impl_SignsOfWiring.calls k a0 A1 c1 l1 s1 s2 _ _ HR1.out HC1.out AS.out).mono ?_); rintro e w4 ⟨rfl, hb⟩; have HB4 := Aside0.mk hb; clear hb) | ((with_reducible refine gate_dst (N := 5) rfl ?_); refine bx 5 #[.int .i64 0, .string (⟨#[]⟩ : ByteArray)] 28 ?_; intro g6 hg w6 hbox hb; have BK6 := Aside0.mk hbox; have HG6 := Aside0.mk (show w.heap.size ≤ g6 by rw [hg]; exact HB4.out.size); have HB6 := Aside0.mk (below_step HB4.out hb); have hz0 := bc BK6 0; have hz1 := bc BK6 1; have hf0 := bf BK6 0; have hf1 := bf BK6 1; clear hb hbox hg))
    go_ret
    exact ⟨rfl, (HB6.out.setCell HG6.out _).setCell HG6.out _⟩
  | true =>
    rw [if_pos rfl] at H
    obtain ⟨T, A2, H⟩ := Option.bind_eq_some_iff.mp H
    obtain ⟨ws, A3, H⟩ := Option.bind_eq_some_iff.mp H
    by_cases hc : cmCond a0 T ws
    case neg => rw [if_neg hc] at H; exact absurd H (by simp)
    rw [if_pos hc] at H
    obtain ⟨⟨r9, M9⟩, A4, H⟩ := Option.bind_eq_some_iff.mp H
    simp only [Option.some.injEq] at H
    subst H
    obtain ⟨q1, q2, q3, q4, q5, q6, q7⟩ := hc
    obtain ⟨n, hn⟩ : ∃ z, a0.toNat = z := ⟨_, rfl⟩
    rw [hn] at q3 q4 q5 q6 A4
    have HT := Aside0.mk (And.intro q1 (And.intro q3 (And.intro q4 (And.intro q5 (show wsOk n ws from ⟨q6, q7⟩)))))
    replace A2 := Aside0.mk A2
    replace A3 := Aside0.mk A3
    replace A4 := Aside0.mk A4
    clear q1 q2 q3 q4 q5 q6 q7 hn
    have hz : (#[] : Array MapEntry) = #[] := rfl
    go_enter Try.func43, Try.ntmps43
    go_wp2_with (first | (go_at_call 19; (with_reducible refine (impl_SignsOfWiring.calls k a0 A1 c1 l1 s1 s2 _ _ HR1.out HC1.out AS.out).mono ?_); rintro e w4 ⟨rfl, hb⟩; have HB4 := Aside0.mk hb; clear hb) | ((with_reducible refine gate_dst (N := 5) rfl ?_); refine bx 5 #[.int .i64 0, .string (⟨#[]⟩ : ByteArray)] 28 ?_; intro g6 hg w6 hbox hb; have BK6 := Aside0.mk hbox; have HG6 := Aside0.mk (show w.heap.size ≤ g6 by rw [hg]; exact HB4.out.size); have HB6 := Aside0.mk (below_step HB4.out hb); have hz0 := bc BK6 0; have hz1 := bc BK6 1; have hf0 := bf BK6 0; have hf1 := bf BK6 1; clear hb hbox hg) | (go_at_call 68; (with_reducible refine (impl_tableOf.calls k s1 s2 T _ A2.out).mono ?_); rintro e w5 ⟨v5, rfl, ho, hb⟩; have HO5 := Aside0.mk ho; have HB5 := Aside0.mk (below_step ((HB6.out.setCell HG6.out _).setCell HG6.out _) hb); clear hb ho; obtain ⟨Ao5, co5, eo5⟩ := Kd.R_slice HO5.out; subst eo5) | (go_at_call 72; (with_reducible refine (impl_upTo.calls k a0 ws _ A3.out).mono ?_); rintro e w7 ⟨v7, rfl, ho, hb⟩; have HO7 := Aside0.mk ho; have n0_ := Aside0.mk (Kd.R_below HO5.out hb); have n1_ := Aside0.mk (below_step HB5.out hb); clear HO5 HB5 hb ho; have HO5 := n0_; have HB5 := n1_; clear n0_ n1_; obtain ⟨Ao7, co7, eo7⟩ := Kd.R_slice HO7.out; subst eo7) | (go_at_call 71; refine calls_of_args (args' := #[.pointer Ao5, .slice Ao7 ws.length co7, .agg (tbB (List.replicate 36 false)), .map (some w7.heap.size)]) (by rfl) ((impl_chi_commuting.calls k Ao5 T n ws Ao7 co7 (List.replicate 36 false) w7.heap.size [] r9 M9 (w7.alloc (.map #[] 0)) (Kd.C_alloc (Kd.R_reads' HO5.out).2.2 _) HT.out.1 HT.out.2.1 HT.out.2.2.1 HT.out.2.2.2.1 (Kd.C_alloc (Kd.R_reads' HO7.out).2.2 _) (Kd.R_reads' HO7.out).2.1 HT.out.2.2.2.2 (by rw [List.length_replicate]) (fun _ h => absurd h (by simp)) (World.ownsMap_made _ _ _ _) A4.out).mono ?_); rintro e w9 ⟨rfl, _, hg⟩; have HB9 := Aside0.mk ((below_alloc HB5.out (.map #[] 0)).grown hg (by have := HB5.out.size; rw [World.size_alloc]; omega) (fun k hk => by injection hk with hk; have := HB5.out.size; omega)); clear hg))
    go_ret
    exact ⟨rfl, HB9.out⟩

end Go.Proofs.Ythibphndihjcaaa.P
