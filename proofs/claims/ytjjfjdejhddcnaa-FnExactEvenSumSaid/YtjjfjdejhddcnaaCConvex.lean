/- The convex and the empty sets of a number of elements: what the program and the reference list. Conditions: order signs. -/
import Derived.Test.YtjjfjdejhddcnaaCHull
import Derived.Test.YtjjfjdejhddcnaaP74
import Derived.Test.YtjjfjdejhddcnaaP92
namespace Go.Proofs.Ytjjfjdejhddcnaa.P
open Go.RowKit Go.Proofs.YtjjfjdejhddcnaaW.PrintWords Go.Proofs.YtjjfjdejhddcnaaW.PrintLast
set_option linter.unusedVariables false
set_option linter.unusedSimpArgs false

/-- Is no other element inside a set? -/
def cEmpF (n : Nat) (s : ByteArray) (S q d : Nat) : Bool := (List.range' q d).all fun p => S.testBit p || !cInH n s S p
def cEmp (n : Nat) (s : ByteArray) (S : Nat) : Bool := cEmpF n s S 0 n
theorem c_specEmp_l (n : Nat) (h3 : 3 ≤ n) (h7 : n ≤ 7) (s : ByteArray) (hs : s.size = (cTrips n).length) (S : Nat) (hS : S < 1024) : ∀ (d q : Nat), q + d = n →
    Ev (fun k => spec_l8Empty.l0 k (S : Int) (q : Int) (n : Int) s) (cEmpF n s S q d) := by
  intro d
  induction d with
  | zero =>
    intro q hq
    refine Ev.step (f := fun _ => some true) (fun k => ?_) (Ev.now _)
    simp only [spec_l8Empty.l0]; rw [if_neg (by omega)]
  | succ d ih =>
    intro q hq
    have hbit : spec_l6Has.f (S : Int) (q : Int) = some (S.testBit q) := by rw [c_has _ q (by omega), c_cBit S q (by omega) (by omega)]
    have e1 : cEmpF n s S q (d + 1) = ((S.testBit q || !cInH n s S q) && cEmpF n s S (q + 1) d) := by unfold cEmpF; rw [List.range'_succ, List.all_cons]
    rw [e1]
    have hn := ih (q + 1) (by omega)
    have hpre : ∀ k, spec_l8Empty.l0 (k + 1) (S : Int) (q : Int) (n : Int) s = if S.testBit q = true then spec_l8Empty.l0 k (S : Int) ((q + 1 : Nat) : Int) (n : Int) s else (spec_l6In.f k (n : Int) s (S : Int) (q : Int)).bind (fun t => if t = true then some false else spec_l8Empty.l0 k (S : Int) ((q + 1 : Nat) : Int) (n : Int) s) := by
      intro k
      simp only [spec_l8Empty.l0]
      rw [if_pos (show (q : Int) < (n : Int) by omega), hbit, c_w1 q (by omega)]
      simp only [Option.bind_some]
    by_cases hb : S.testBit q = true
    · rw [hb, Bool.true_or, Bool.true_and]
      exact Ev.step (fun k => by rw [hpre, if_pos hb]) hn
    · refine Ev.step (fun k => by rw [hpre, if_neg hb]) (Ev.bind (c_specIn n h3 h7 s hs S q hS (by omega)) ?_)
      rw [Bool.not_eq_true] at hb
      rw [hb, Bool.false_or]
      cases hi : cInH n s S q with
      | true => simp only [if_true, Bool.not_true, Bool.false_and]; exact Ev.now _
      | false => simp only [Bool.false_eq_true, if_false, Bool.not_false, Bool.true_and]; exact hn
theorem c_specEmp (n : Nat) (h3 : 3 ≤ n) (h7 : n ≤ 7) (s : ByteArray) (hs : s.size = (cTrips n).length) (S : Nat) (hS : S < 1024) : Ev (fun k => spec_l8Empty.f k (n : Int) s (S : Int)) (cEmp n s S) :=
  c_specEmp_l n h3 h7 s hs S hS n 0 (by omega)
/-- The sets that are asked for, from q on. -/
def cPick (n : Nat) (s : ByteArray) (K : Int) (empty : Bool) (S : Nat) : Bool := decide ((cPop S : Int) = K) && cConv n s S && (!empty || cEmp n s S)
def cSets (n : Nat) (s : ByteArray) (K : Int) (empty : Bool) (q d : Nat) : List Int := ((List.range' q d).filter (cPick n s K empty)).map fun (S : Nat) => (S : Int)
theorem c_sets_succ (n : Nat) (s : ByteArray) (K : Int) (empty : Bool) (q d : Nat) : cSets n s K empty q (d + 1) = (if cPick n s K empty q = true then [(q : Int)] else []) ++ cSets n s K empty (q + 1) d := by
  unfold cSets
  rw [List.range'_succ, List.filter_cons]
  split <;> rfl
theorem c_sets_len (n : Nat) (s : ByteArray) (K : Int) (empty : Bool) (q d : Nat) : (cSets n s K empty q d).length ≤ d := by
  unfold cSets
  rw [List.length_map]
  refine Nat.le_trans (List.length_filter_le _ _) ?_
  rw [List.length_range']; exact Nat.le_refl _
theorem c_full_all : ∀ n ∈ [3, 4, 5, 6, 7], impl_fullSet.f ((n : Nat) : Int) = some ((2 ^ n - 1 : Nat) : Int) ∧ shl .i64 1 (IntKind.u64.wrap ((n : Nat) : Int)) = ((2 ^ n : Nat) : Int) ∧ 0 ≤ IntKind.u64.wrap ((n : Nat) : Int) ∧ 8 ≤ 2 ^ n ∧ 2 ^ n ≤ 128 := by decide +kernel
theorem c_implSets_l (n : Nat) (h3 : 3 ≤ n) (h7 : n ≤ 7) (s : ByteArray) (K : Int) : ∀ (d q : Nat) (acc : List Int), q + d = 2 ^ n → acc.length ≤ q →
    Ev (fun k => impl_chi_convexSets.l0 k (cTab n s) K acc (q : Int)) (acc ++ cSets n s K false q d) := by
  have hl := c_tab_len n s
  have h344 : (344 : Int) ≤ ((cTab n s).length : Int) := by omega
  have hn0 := c_tab_n n h3 h7 s
  obtain ⟨f1, f2, f3, f4, f5⟩ := c_full_all n (c_five n h3 h7)
  intro d
  induction d with
  | zero =>
    intro q acc hq ha
    rw [show cSets n s K false q 0 = [] from rfl, List.append_nil]
    refine Ev.step (f := fun _ => some acc) (fun k => ?_) (Ev.now _)
    simp only [impl_chi_convexSets.l0]; rw [if_pos h344, hn0, f1]
    simp only [Option.bind_some]; rw [if_neg (by omega)]
  | succ d ih =>
    intro q acc hq ha
    rw [c_sets_succ]
    have hpre : ∀ k, impl_chi_convexSets.l0 (k + 1) (cTab n s) K acc (q : Int) = if ((cPop q : Nat) : Int) = K then (impl_chi_isConvexSet.f k (cTab n s) (q : Int)).bind (fun t => if t = true then impl_chi_convexSets.l0 k (cTab n s) K (acc ++ [(q : Int)]) ((q + 1 : Nat) : Int) else impl_chi_convexSets.l0 k (cTab n s) K acc ((q + 1 : Nat) : Int)) else impl_chi_convexSets.l0 k (cTab n s) K acc ((q + 1 : Nat) : Int) := by
      intro k
      simp only [impl_chi_convexSets.l0]
      rw [if_pos h344, hn0, f1]
      simp only [Option.bind_some]
      rw [if_pos (show (q : Int) ≤ ((2 ^ n - 1 : Nat) : Int) by omega), c_u64 q (by omega), c_ones q (by omega), c_w1 q (by omega)]
      simp only [Option.bind_some, if_pos (show acc.length < 17592186044416 by omega)]
    have h0 := ih (q + 1) acc (by omega) (by omega)
    have h1 := ih (q + 1) (acc ++ [(q : Int)]) (by omega) (by rw [List.length_append, List.length_singleton]; omega)
    rw [List.append_assoc] at h1
    by_cases hk : ((cPop q : Nat) : Int) = K
    · refine Ev.step (fun k => by rw [hpre, if_pos hk]) (Ev.bind (c_implConv n h3 h7 s q (by omega)) ?_)
      cases hc : cConv n s q with
      | true =>
        have e : cPick n s K false q = true := by unfold cPick; rw [decide_eq_true hk, hc]; rfl
        rw [if_pos e]; simp only [if_true]; exact h1
      | false =>
        have e : ¬ cPick n s K false q = true := by unfold cPick; rw [hc]; simp
        rw [if_neg e, List.nil_append]; simp only [Bool.false_eq_true, if_false]; exact h0
    · have e : ¬ cPick n s K false q = true := by unfold cPick; rw [decide_eq_false hk]; simp
      rw [if_neg e, List.nil_append]
      exact Ev.step (fun k => by rw [hpre, if_neg hk]) h0
theorem c_implSets (n : Nat) (h3 : 3 ≤ n) (h7 : n ≤ 7) (s : ByteArray) (K : Int) : Ev (fun k => impl_chi_convexSets.f k (cTab n s) K) (cSets n s K false 0 (2 ^ n)) := by
  have h := c_implSets_l n h3 h7 s K (2 ^ n) 0 [] (by omega) (by simp)
  exact h
theorem c_specSets_l (n : Nat) (h3 : 3 ≤ n) (h7 : n ≤ 7) (s : ByteArray) (hs : s.size = (cTrips n).length) (K : Int) (empty : Bool) : ∀ (d q : Nat) (acc : List Int), q + d = 2 ^ n → acc.length ≤ q →
    Ev (fun k => spec_l8Sets.l0 k K empty acc (q : Int) (n : Int) s) (acc ++ cSets n s K empty q d) := by
  obtain ⟨f1, f2, f3, f4, f5⟩ := c_full_all n (c_five n h3 h7)
  intro d
  induction d with
  | zero =>
    intro q acc hq ha
    rw [show cSets n s K empty q 0 = [] from rfl, List.append_nil]
    refine Ev.step (f := fun _ => some acc) (fun k => ?_) (Ev.now _)
    simp only [spec_l8Sets.l0]; rw [if_pos f3, f2, if_neg (by omega)]
  | succ d ih =>
    intro q acc hq ha
    rw [c_sets_succ]
    have hlen : acc.length < 17592186044416 := by omega
    have hpre : ∀ k, spec_l8Sets.l0 (k + 1) K empty acc (q : Int) (n : Int) s = (spec_l7Bits.f k (q : Int)).bind fun t => if t = K then (spec_l8Convex.f k (n : Int) s (q : Int)).bind (fun t => if t = true then (if empty = true then (spec_l8Empty.f k (n : Int) s (q : Int)).bind (fun t => if t = true then spec_l8Sets.l0 k K empty (acc ++ [(q : Int)]) ((q + 1 : Nat) : Int) (n : Int) s else spec_l8Sets.l0 k K empty acc ((q + 1 : Nat) : Int) (n : Int) s) else spec_l8Sets.l0 k K empty (acc ++ [(q : Int)]) ((q + 1 : Nat) : Int) (n : Int) s) else spec_l8Sets.l0 k K empty acc ((q + 1 : Nat) : Int) (n : Int) s) else spec_l8Sets.l0 k K empty acc ((q + 1 : Nat) : Int) (n : Int) s := by
      intro k
      simp only [spec_l8Sets.l0]
      rw [if_pos f3, f2, if_pos (show (q : Int) < ((2 ^ n : Nat) : Int) by omega), c_w1 q (by omega)]
      simp only [if_pos hlen]
    have h0 := ih (q + 1) acc (by omega) (by omega)
    have h1 := ih (q + 1) (acc ++ [(q : Int)]) (by omega) (by rw [List.length_append, List.length_singleton]; omega)
    rw [List.append_assoc] at h1
    refine Ev.step hpre (Ev.bind (c_bits7 q (by omega)) ?_)
    by_cases hk : ((cPop q : Nat) : Int) = K
    · simp only [if_pos hk]
      refine Ev.bind (c_specConv n h3 h7 s hs q (by omega)) ?_
      cases hc : cConv n s q with
      | true =>
        simp only [if_true]
        cases empty with
        | false =>
          have e : cPick n s K false q = true := by unfold cPick; rw [decide_eq_true hk, hc]; rfl
          rw [if_pos e]; simp only [Bool.false_eq_true, if_false]; exact h1
        | true =>
          simp only [if_true]
          refine Ev.bind (c_specEmp n h3 h7 s hs q (by omega)) ?_
          cases he : cEmp n s q with
          | true =>
            have e : cPick n s K true q = true := by unfold cPick; rw [decide_eq_true hk, hc, he]; rfl
            rw [if_pos e]; simp only [if_true]; exact h1
          | false =>
            have e : ¬ cPick n s K true q = true := by unfold cPick; rw [he]; simp
            rw [if_neg e, List.nil_append]; simp only [Bool.false_eq_true, if_false]; exact h0
      | false =>
        have e : ¬ cPick n s K empty q = true := by unfold cPick; rw [hc]; simp
        rw [if_neg e, List.nil_append]; simp only [Bool.false_eq_true, if_false]; exact h0
    · have e : ¬ cPick n s K empty q = true := by unfold cPick; rw [decide_eq_false hk]; simp
      rw [if_neg e, List.nil_append]
      simp only [if_neg hk]; exact h0
/-- What ConvexSets and EmptySets list. -/
def cCs (n : Int) (s : ByteArray) (K : Int) (empty : Bool) : List Int := if cAcy n s = true ∧ 3 ≤ K ∧ K ≤ n then cSets n.toNat s K empty 0 (2 ^ n.toNat) else []
theorem c_cs_len (n : Int) (s : ByteArray) (K : Int) (empty : Bool) : (cCs n s K empty).length ≤ 1099511627776 := by
  unfold cCs
  split
  · rename_i h
    obtain ⟨m, rfl, h3, h7, hz2⟩ := c_acy_open n s h.1
    have := (c_full_all m (c_five m h3 h7)).2.2.2.2
    have := c_sets_len m s K empty 0 (2 ^ m)
    rw [Int.toNat_natCast]; omega
  · simp
theorem c_l1InK (K n : Int) : spec_l1In.f K 3 n = some (decide (3 ≤ K ∧ K ≤ n)) := by
  unfold spec_l1In.f
  by_cases h : K ≥ 3
  · rw [if_pos h]; congr 1; simp only [decide_eq_decide]; omega
  · rw [if_neg h, decide_eq_false (by omega)]
theorem c_specL8 (n : Int) (s : ByteArray) (hs : s.size ≤ 1099511627776) (K : Int) (empty : Bool) : Ev (fun k => spec_l8Sets.f k n s K empty) (cCs n s K empty) := by
  unfold spec_l8Sets.f cCs
  simp only [Option.bind_some]
  refine Ev.bind (c_specAcy n s hs) ?_
  by_cases h : cAcy n s = true
  · obtain ⟨m, rfl, h3, h7, hz2⟩ := c_acy_open n s h
    simp only [h, if_true, c_l1InK, Option.bind_some, true_and, Int.toNat_natCast]
    by_cases hk : 3 ≤ K ∧ K ≤ (m : Int)
    · rw [if_pos hk]
      simp only [decide_eq_true hk, Bool.not_true]
      refine Ev.step (fun k => by simp only [spec_l8Sets.j0, Bool.false_eq_true, if_false]; rfl) (c_specSets_l m h3 h7 s hz2 K empty (2 ^ m) 0 [] (by omega) (by simp))
    · rw [if_neg hk]
      simp only [decide_eq_false hk, Bool.not_false]
      exact Ev.step (f := fun _ => some []) (fun k => by simp only [spec_l8Sets.j0, if_true]) (Ev.now _)
  · simp only [h, Bool.false_eq_true, if_false, false_and]
    exact Ev.step (f := fun _ => some []) (fun k => by simp only [spec_l8Sets.j0, if_true]) (Ev.now _)

end Go.Proofs.Ytjjfjdejhddcnaa.P
