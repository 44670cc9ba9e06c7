/- impl.NormalWiring: what a call of it computes. Conditions: none. -/
import Derived.Test.YthibphndihjcaaaOWsg
import Derived.Test.YthibphndihjcaaaOSigns
namespace Go.Proofs.Ythibphndihjcaaa.P
open Go.RowKit Go.Proofs.YthibphndihjcaaaW.PrintWords Go.Proofs.YthibphndihjcaaaW.PrintLast Go.Proofs.YthibphndihjcaaaW.PrintMore
set_option linter.unusedVariables false
set_option linter.unusedSimpArgs false

def impl_NormalWiring.f (k : Nat) (a0 : Int) (l1 : List Int) : Option (List Int × Bool) := (impl_SignsOfWiring.f k a0 l1).bind fun r => if r.2.2 = true then impl_WiringOfSigns.f k r.1 r.2.1 else some ([], false)
theorem impl_NormalWiring.mono : ∀ a0 a1 k, LeO (impl_NormalWiring.f k a0 a1) (impl_NormalWiring.f (k + 1) a0 a1) := by
  intro a0 a1 k
  unfold impl_NormalWiring.f
  exact LeO.bind (impl_SignsOfWiring.mono _ _ _) (fun _ => LeO.ite (impl_WiringOfSigns.mono _ _ _) (LeO.refl _))
set_option maxHeartbeats 8000000 in
set_option maxRecDepth 100000 in
theorem impl_NormalWiring.calls (k : Nat) (a0 : Int) (A1 : Option Addr) (c1 : Nat) (l1 : List Int) (r1 : List Int) (r2 : Bool) (w : World) (hr1 : Kd.C (Kd.int .i64) w A1 l1.length l1) (hc1 : l1.length ≤ c1) (h : impl_NormalWiring.f k a0 l1 = some (r1, r2)) :
    Calls Try.prog 41 #[.int .i64 a0, .slice A1 l1.length c1] w fun e w' => ∃ v0_ : Value, e = .returned (.tuple #[v0_, .bool r2]) ∧ Kd.R (Kd.int .i64) 3 w' w.heap.size (fun _ => True) v0_ r1 ∧ Below w.heap.size w w' := by
  have hu28 := Try.underlying28
  have HR1 := Aside0.mk hr1
  have HC1 := Aside0.mk hc1
  unfold impl_NormalWiring.f at h
  obtain ⟨⟨s1, s2, s3⟩, AS, H⟩ := Option.bind_eq_some_iff.mp h
  replace AS := Aside0.mk AS
  clear h hr1 hc1
  simp only at H
  cases s3 with
  | false =>
    rw [if_neg (by simp)] at H
    cases H
    go_enter Try.func41, Try.ntmps41
    go_wp2_with (first | (go_at_call 19; (with_reducible refine (impl_SignsOfWiring.calls k a0 A1 c1 l1 s1 s2 _ _ HR1.out HC1.out AS.out).mono ?_); rintro e w4 ⟨rfl, hb⟩; have HB4 := Aside0.mk hb; clear hb) | ((with_reducible refine gate_dst (N := 6) rfl ?_); refine bx 6 #[.int .i64 0, .string (⟨#[]⟩ : ByteArray)] 28 ?_; intro g6 hg w6 hbox hb; have BK6 := Aside0.mk hbox; have HG6 := Aside0.mk (show w.heap.size ≤ g6 by rw [hg]; exact HB4.out.size); have HB6 := Aside0.mk (below_step HB4.out hb); have hz0 := bc BK6 0; have hz1 := bc BK6 1; have hf0 := bf BK6 0; have hf1 := bf BK6 1; clear hb hbox hg))
    go_ret2
    exact ⟨.slice none 0 0, rfl, Kd.R_nil _ _ _ _ _, (HB6.out.setCell HG6.out _).setCell HG6.out _⟩
  | true =>
    rw [if_pos rfl] at H
    have A3 := Aside0.mk H
    clear H
    go_enter Try.func41, Try.ntmps41
    go_wp2_with (first | (go_at_call 19; (with_reducible refine (impl_SignsOfWiring.calls k a0 A1 c1 l1 s1 s2 _ _ HR1.out HC1.out AS.out).mono ?_); rintro e w4 ⟨rfl, hb⟩; have HB4 := Aside0.mk hb; clear hb) | ((with_reducible refine gate_dst (N := 6) rfl ?_); refine bx 6 #[.int .i64 0, .string (⟨#[]⟩ : ByteArray)] 28 ?_; intro g6 hg w6 hbox hb; have BK6 := Aside0.mk hbox; have HG6 := Aside0.mk (show w.heap.size ≤ g6 by rw [hg]; exact HB4.out.size); have HB6 := Aside0.mk (below_step HB4.out hb); have hz0 := bc BK6 0; have hz1 := bc BK6 1; have hf0 := bf BK6 0; have hf1 := bf BK6 1; clear hb hbox hg) | (go_at_call 39; (with_reducible refine (impl_WiringOfSigns.calls k s1 s2 r1 r2 _ A3.out).mono ?_); rintro e w7 ⟨v7, rfl, ho, hb⟩; have HO7 := Aside0.mk ho; have HB7 := Aside0.mk hb; clear ho hb))
    go_ret2
    exact ⟨v7, rfl, Kd.R_lower HO7.out (below_size ((HB6.out.setCell HG6.out _).setCell HG6.out _)), below_step ((HB6.out.setCell HG6.out _).setCell HG6.out _) HB7.out⟩

end Go.Proofs.Ythibphndihjcaaa.P
