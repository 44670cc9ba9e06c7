/- The empty convex sets: what the program lists. Conditions: none. -/
import Derived.Test.YtjjfjdejhddcnaaCConvex
import Derived.Test.YtjjfjdejhddcnaaOEmpty
import Derived.Test.YtjjfjdejhddcnaaP92
namespace Go.Proofs.Ytjjfjdejhddcnaa.P
open Go.RowKit Go.Proofs.YtjjfjdejhddcnaaW.PrintWords Go.Proofs.YtjjfjdejhddcnaaW.PrintLast
set_option linter.unusedVariables false
set_option linter.unusedSimpArgs false

theorem c_and1 : ∀ S < 128, ∀ q < 7, Go.bits .and .i64 (shr .i64 ((S : Nat) : Int) ((q : Nat) : Int)) 1 = 0 ∨ Go.bits .and .i64 (shr .i64 ((S : Nat) : Int) ((q : Nat) : Int)) 1 = 1 := by decide +kernel
theorem c_hits (n : Nat) (h3 : 3 ≤ n) (h7 : n ≤ 7) (s : ByteArray) (S : Nat) (hS : S < 128) : ∀ (d q : Nat), q + d = n →
    Ev (fun k => impl_EmptySets_1.l0 k (cTab n s) (S : Int) (q : Int)) (!cEmpF n s S q d) := by
  have hl := c_tab_len n s
  have h344 : (344 : Int) ≤ ((cTab n s).length : Int) := by omega
  have hn0 := c_tab_n n h3 h7 s
  intro d
  induction d with
  | zero =>
    intro q hq
    refine Ev.step (f := fun _ => some false) (fun k => ?_) (Ev.now _)
    simp only [impl_EmptySets_1.l0]; rw [if_pos h344, hn0, if_neg (by omega)]
  | succ d ih =>
    intro q hq
    have hbit : Go.bits .and .i64 (shr .i64 (S : Int) (q : Int)) 1 = 0 ↔ S.testBit q = false := by
      have h := c_cBit S q (by omega) (by omega)
      unfold cBit at h
      have hv : Go.bits .and .i64 (shr .i64 (S : Int) (q : Int)) 1 = 0 ∨ Go.bits .and .i64 (shr .i64 (S : Int) (q : Int)) 1 = 1 := by
        exact c_and1 S hS q (by omega)
      rw [← h]
      rcases hv with hv | hv <;> rw [hv] <;> simp
    have e1 : cEmpF n s S q (d + 1) = ((S.testBit q || !cInH n s S q) && cEmpF n s S (q + 1) d) := by unfold cEmpF; rw [List.range'_succ, List.all_cons]
    rw [e1]
    have hn := ih (q + 1) (by omega)
    have hpre : ∀ k, impl_EmptySets_1.l0 (k + 1) (cTab n s) (S : Int) (q : Int) = if S.testBit q = false then (impl_chi_inHull.f k (cTab n s) (S : Int) (q : Int)).bind (fun b => if b = true then some true else impl_EmptySets_1.l0 k (cTab n s) (S : Int) ((q + 1 : Nat) : Int)) else impl_EmptySets_1.l0 k (cTab n s) (S : Int) ((q + 1 : Nat) : Int) := by
      intro k
      simp only [impl_EmptySets_1.l0]
      rw [if_pos h344, hn0, if_pos (by omega), if_pos (by omega), c_w1 q (by omega)]
      simp only [hbit]
    by_cases hb : S.testBit q = false
    · refine Ev.step (fun k => by rw [hpre, if_pos hb]) (Ev.bind (c_implIn n h3 h7 s S q (by omega) (by omega) hb) ?_)
      rw [hb, Bool.false_or]
      cases hi : cInH n s S q with
      | true => simp only [if_true, Bool.not_true, Bool.false_and, Bool.not_false]; exact Ev.now _
      | false => simp only [Bool.false_eq_true, if_false, Bool.not_false, Bool.true_and]; exact hn
    · have hb2 : S.testBit q = true := by simpa using hb
      rw [hb2, Bool.true_or, Bool.true_and]
      exact Ev.step (fun k => by rw [hpre, if_neg hb]) hn
theorem c_del (n : Nat) (h3 : 3 ≤ n) (h7 : n ≤ 7) (s : ByteArray) : ∀ L : List Nat, (∀ S ∈ L, S < 128) → Ev (fun k => impl_EmptySets_1.del k (cTab n s) (L.map fun (S : Nat) => (S : Int))) ((L.filter (cEmp n s)).map fun (S : Nat) => (S : Int))
  | [], _ => Ev.now _
  | S :: L, h => by
    have hd := c_del n h3 h7 s L (fun x hx => h x (List.mem_cons_of_mem _ hx))
    have h1 := c_hits n h3 h7 s S (h S (by simp)) n 0 (by omega)
    simp only [List.map_cons, impl_EmptySets_1.del]
    refine Ev.bind h1 (Ev.bind hd ?_)
    rw [List.filter_cons]
    have e : cEmpF n s S 0 n = cEmp n s S := rfl
    rw [e]
    cases cEmp n s S <;> exact Ev.now _
theorem c_implEmptySets (n : Int) (s : ByteArray) (hs : s.size ≤ 1099511627776) (K : Int) : Ev (fun k => impl_EmptySets.f k n s K) (cCs n s K true) := by
  unfold impl_EmptySets.f cCs
  refine Ev.bind (c_orderOf n s hs) ?_
  by_cases h : cAcy n s = true
  · obtain ⟨m, rfl, h3, h7, hz2⟩ := c_acy_open n s h
    simp only [h, if_true, true_and, Int.toNat_natCast]
    by_cases k1 : K < 3
    · rw [if_neg (show ¬ (3 ≤ K ∧ K ≤ (m : Int)) by omega)]; simp only [if_pos k1]; exact Ev.now _
    · simp only [if_neg k1]
      by_cases k2 : (m : Int) < K
      · rw [if_neg (show ¬ (3 ≤ K ∧ K ≤ (m : Int)) by omega)]; simp only [if_pos k2]; exact Ev.now _
      · rw [if_pos (show 3 ≤ K ∧ K ≤ (m : Int) by omega)]; simp only [if_neg k2]
        refine Ev.bind (c_implSets m h3 h7 s K) ?_
        have h128 := (c_full_all m (c_five m h3 h7)).2.2.2.2
        have hlen := c_sets_len m s K false 0 (2 ^ m)
        simp only [if_pos (show (cSets m s K false 0 (2 ^ m)).length < 4611686018427387904 by omega)]
        have hd := c_del m h3 h7 s ((List.range' 0 (2 ^ m)).filter (cPick m s K false)) (fun S hS => by
          have := List.mem_filter.mp hS
          have := List.mem_range'_1.mp this.1
          omega)
        rw [List.filter_filter] at hd
        have e : (fun a => cEmp m s a && cPick m s K false a) = cPick m s K true := by
          funext S
          unfold cPick
          simp only [Bool.not_false, Bool.true_or, Bool.and_true, Bool.not_true, Bool.false_or]
          rw [Bool.and_comm]
        rw [e] at hd
        exact hd
  · simp only [h, Bool.false_eq_true, if_false, false_and]; exact Ev.now _

end Go.Proofs.Ytjjfjdejhddcnaa.P
