/- Are all elements connected: what the program and the reference answer. Conditions: 3 to 7 elements. -/
import Derived.Test.YtiimkifkakdalaaCDeg
import Derived.Test.YtiimkifkakdalaaP65
import Derived.Test.YtiimkifkakdalaaP38
import Derived.Test.YtiimkifkakdalaaP108
namespace Go.Proofs.Ytiimkifkakdalaa.P
open Go.RowKit Go.Proofs.YtiimkifkakdalaaW.PrintWords Go.Proofs.YtiimkifkakdalaaW.PrintLast
set_option linter.unusedVariables false

/-- An edge's two ends are reached if one is. -/
def cLStep (r : Nat) (p : Nat × Nat) : Nat := if r / 2 ^ p.1 % 2 = 1 ∨ r / 2 ^ p.2 % 2 = 1 then r ||| (2 ^ p.1 ||| 2 ^ p.2) else r
def cPc (r : Nat) : Nat := r % 2 + r / 2 % 2 + r / 4 % 2 + r / 8 % 2 + r / 16 % 2 + r / 32 % 2 + r / 64 % 2
def cM (i j : Nat) : Int := Go.bits .or .i64 (shl .i64 1 (i : Int)) (shl .i64 1 (j : Int))
theorem c_step_impl : ∀ (j : Nat), j < 7 → ∀ (i : Nat), i < j → ∀ (r : Nat), r < 128 → (if Go.bits .and .i64 (r : Int) (cM i j) = 0 then cLStep r (i, j) = r else if Go.bits .and .i64 (r : Int) (cM i j) = cM i j then cLStep r (i, j) = r else (Go.bits .or .i64 (r : Int) (cM i j) = (cLStep r (i, j) : Int) ∧ cLStep r (i, j) ≠ r)) := by decide +kernel
def cStepSpec (j i r : Nat) : Prop := if spec_l6Has.f (r : Int) (i : Int) = some true then (Go.bits .or .i64 (Go.bits .or .i64 (r : Int) (shl .i64 1 (IntKind.u64.wrap (i : Int)))) (shl .i64 1 (IntKind.u64.wrap (j : Int))) = (cLStep r (i, j) : Int)) else (spec_l6Has.f (r : Int) (i : Int) = some false ∧ (if spec_l6Has.f (r : Int) (j : Int) = some true then (Go.bits .or .i64 (Go.bits .or .i64 (r : Int) (shl .i64 1 (IntKind.u64.wrap (i : Int)))) (shl .i64 1 (IntKind.u64.wrap (j : Int))) = (cLStep r (i, j) : Int)) else (spec_l6Has.f (r : Int) (j : Int) = some false ∧ cLStep r (i, j) = r)))
instance (j i r : Nat) : Decidable (cStepSpec j i r) := by unfold cStepSpec; exact inferInstance
theorem c_step_spec_all : ((List.range 7).all fun j => (List.range j).all fun i => (List.range 128).all fun r => decide (cStepSpec j i r) && decide (0 ≤ IntKind.u64.wrap (i : Int)) && decide (0 ≤ IntKind.u64.wrap (j : Int))) = true := by decide +kernel
theorem c_step_spec (j : Nat) (hj : j < 7) (i : Nat) (hi : i < j) (r : Nat) (hr : r < 128) : cStepSpec j i r ∧ 0 ≤ IntKind.u64.wrap (i : Int) ∧ 0 ≤ IntKind.u64.wrap (j : Int) := by
  have h := List.all_eq_true.1 (List.all_eq_true.1 (List.all_eq_true.1 c_step_spec_all j (List.mem_range.2 hj)) i (List.mem_range.2 hi)) r (List.mem_range.2 hr)
  simp only [Bool.and_eq_true, decide_eq_true_eq] at h
  exact ⟨h.1.1, h.1.2, h.2⟩
def cStepLt (n j i r : Nat) : Bool := decide (cLStep r (i, j) < 2 ^ n) && decide (r ≤ cLStep r (i, j)) && (decide (cLStep r (i, j) = r) || decide (cPc r < cPc (cLStep r (i, j))))
theorem c_step_lt_all : ((List.range 8).all fun n => (List.range n).all fun j => (List.range j).all fun i => (List.range (2 ^ n)).all fun r => cStepLt n j i r) = true := by decide +kernel
theorem c_step_lt (n : Nat) (hn : n < 8) (j : Nat) (hj : j < n) (i : Nat) (hi : i < j) (r : Nat) (hr : r < 2 ^ n) : cLStep r (i, j) < 2 ^ n ∧ r ≤ cLStep r (i, j) ∧ (cLStep r (i, j) = r ∨ cPc r < cPc (cLStep r (i, j))) := by
  have h := List.all_eq_true.1 (List.all_eq_true.1 (List.all_eq_true.1 (List.all_eq_true.1 c_step_lt_all n (List.mem_range.2 hn)) j (List.mem_range.2 hj)) i (List.mem_range.2 hi)) r (List.mem_range.2 hr)
  unfold cStepLt at h
  simp only [Bool.and_eq_true, Bool.or_eq_true, decide_eq_true_eq] at h
  exact ⟨h.1.1, h.1.2, h.2⟩
theorem c_pc_le : ∀ (n : Nat), n < 8 → ∀ (r : Nat), r < 2 ^ n → cPc r ≤ n := by decide +kernel
/-- A pass over the edges of a list, the first of which has an index. -/
def cPass (e : Int) : List (Nat × Nat) → Nat → Nat → Nat
  | [], _, r => r
  | p :: l, q, r => cPass e l (q + 1) (if cBit e q = true then cLStep r p else r)
theorem c_pass (n : Nat) (hn : n < 8) (e : Int) : ∀ (l : List (Nat × Nat)) (q r : Nat), (∀ p ∈ l, p.1 < p.2 ∧ p.2 < n) → r < 2 ^ n →
    cPass e l q r < 2 ^ n ∧ r ≤ cPass e l q r ∧ (cPass e l q r = r ∨ cPc r < cPc (cPass e l q r)) := by
  intro l
  induction l with
  | nil => intro q r _ hr; exact ⟨hr, Nat.le_refl _, .inl rfl⟩
  | cons p l ih =>
    intro q r hp hr
    simp only [cPass]
    have hp0 := hp p (by simp)
    have hs := c_step_lt n hn p.2 hp0.2 p.1 hp0.1 r hr
    by_cases hb : cBit e q = true
    · rw [if_pos hb]
      have := ih (q + 1) (cLStep r p) (fun x hx => hp x (by simp [hx])) hs.1
      refine ⟨this.1, Nat.le_trans hs.2.1 this.2.1, ?_⟩
      rcases this.2.2 with h | h <;> rcases hs.2.2 with h' | h'
      · left; rw [h]; exact h'
      · right; rw [h]; exact h'
      · right; rw [show cLStep r p = r from h'] at h ⊢; exact h
      · right; exact Nat.lt_trans h' h
    · rw [if_neg hb]; exact ih (q + 1) r (fun x hx => hp x (by simp [hx])) hr
def cIter (e : Int) (l : List (Nat × Nat)) : Nat → Nat → Nat
  | 0, r => r
  | t + 1, r => cIter e l t (cPass e l 0 r)
theorem c_iter_fix (e : Int) (l : List (Nat × Nat)) (r : Nat) (h : cPass e l 0 r = r) : ∀ t, cIter e l t r = r := by
  intro t
  induction t with
  | zero => rfl
  | succ t ih => simp only [cIter]; rw [h]; exact ih
theorem c_drop_pair2 (l : List (Nat × Nat)) (i : Nat) (h : i < l.length) : l.drop i = l.getD i (0, 0) :: l.drop (i + 1) := by
  rw [List.drop_eq_getElem_cons h, List.getD_eq_getElem?_getD, List.getElem?_eq_getElem h]; rfl
theorem c_pair_mem2 (l : List (Nat × Nat)) (i : Nat) (h : i < l.length) : l.getD i (0, 0) ∈ l := by
  rw [List.getD_eq_getElem?_getD, List.getElem?_eq_getElem h]; exact List.getElem_mem _
/-- The program's pass. -/
theorem c_implPass (n : Int) (h3 : 3 ≤ n) (h7 : n ≤ 7) (e : Int) (res : Bool) (r0 : Nat) (hres : Ev (fun k => impl_isConnected.l0 k n e ((cPass e (cPairs n.toNat) 0 r0 : Nat) : Int) (cPass e (cPairs n.toNat) 0 r0 != r0)) res) : ∀ (d q r : Nat), q + d = (cPairs n.toNat).length → r < 2 ^ n.toNat → r0 ≤ r → cPass e ((cPairs n.toNat).drop q) q r = cPass e (cPairs n.toNat) 0 r0 →
    Ev (fun k => impl_isConnected.l1 k n e (r : Int) (r != r0) (cEdges n.toNat) ((cEdges n.toNat).length : Int) (q : Int)) res := by
  intro d
  have hle := c_pairs_le n h3 h7
  have h128 : 2 ^ n.toNat ≤ 128 := by rcases c_three7 n h3 h7 with rfl | rfl | rfl | rfl | rfl <;> decide
  induction d with
  | zero =>
    intro q r hq hr h0 hp
    rw [List.drop_eq_nil_of_le (by omega)] at hp
    simp only [cPass] at hp
    refine Ev.step (f := fun k => impl_isConnected.l0 k n e (r : Int) (r != r0)) (fun k => ?_) ?_
    · simp only [impl_isConnected.l1]; rw [if_neg (by rw [c_edges_length]; omega)]
    · rw [hp]; exact hres
  | succ d ih =>
    intro q r hq hr h0 hpass
    rw [c_drop_pair2 _ q (by omega)] at hpass
    have hp := c_pairs_get n h3 h7 _ (c_pair_mem2 _ q (show q < (cPairs n.toNat).length by omega))
    generalize hpp : (cPairs n.toNat).getD q (0, 0) = p at hp hpass
    obtain ⟨i, j⟩ := p
    dsimp only at hp
    have g0 : (q : Int) < ((cEdges n.toNat).length : Int) := by rw [c_edges_length]; omega
    have g1 : (0 : Int) ≤ (q : Int) := by omega
    have a1 : (0 : Int) ≤ (i : Int) := by omega
    have a3 : (0 : Int) ≤ (j : Int) := by omega
    simp only [cPass] at hpass
    have hs := c_step_lt n.toNat (by omega) j hp.2 i hp.1 r hr
    have hi := c_step_impl j (by omega) i hp.1 r (by omega)
    unfold cM at hi
    by_cases hb : cBit e q = true
    · rw [if_pos hb] at hpass
      have hb' : Go.bits .and .i64 (shr .i64 e (q : Int)) 1 = 1 := by simpa [cBit] using hb
      by_cases z0 : Go.bits .and .i64 (r : Int) (Go.bits .or .i64 (shl .i64 1 (i : Int)) (shl .i64 1 (j : Int))) = 0
      · rw [if_pos z0] at hi
        rw [hi] at hpass
        refine Ev.step (f := fun k => impl_isConnected.l1 k n e (r : Int) (r != r0) (cEdges n.toNat) ((cEdges n.toNat).length : Int) ((q + 1 : Nat) : Int)) (fun k => ?_) (ih (q + 1) r (by omega) hr h0 hpass)
        simp only [impl_isConnected.l1]
        rw [c_rdE n.toNat q (by omega), hpp]
        simp only [cE, if_pos g0, if_pos g1, if_pos a1, if_pos a3, if_pos hb', if_pos z0, c_w1 q (show q < 4611686018427387904 by omega)]
      · rw [if_neg z0] at hi
        by_cases z1 : Go.bits .and .i64 (r : Int) (Go.bits .or .i64 (shl .i64 1 (i : Int)) (shl .i64 1 (j : Int))) = Go.bits .or .i64 (shl .i64 1 (i : Int)) (shl .i64 1 (j : Int))
        · rw [if_pos z1] at hi
          rw [hi] at hpass
          refine Ev.step (f := fun k => impl_isConnected.l1 k n e (r : Int) (r != r0) (cEdges n.toNat) ((cEdges n.toNat).length : Int) ((q + 1 : Nat) : Int)) (fun k => ?_) (ih (q + 1) r (by omega) hr h0 hpass)
          simp only [impl_isConnected.l1]
          rw [c_rdE n.toNat q (by omega), hpp]
          simp only [cE, if_pos g0, if_pos g1, if_pos a1, if_pos a3, if_pos hb', if_neg z0, if_pos z1, c_w1 q (show q < 4611686018427387904 by omega)]
        · rw [if_neg z1] at hi
          have hne : (cLStep r (i, j) != r0) = true := by
            have : cLStep r (i, j) ≠ r0 := by omega
            simpa using this
          have := ih (q + 1) (cLStep r (i, j)) (by omega) hs.1 (by omega) hpass
          rw [hne] at this
          refine Ev.step (f := fun k => impl_isConnected.l1 k n e (cLStep r (i, j) : Int) true (cEdges n.toNat) ((cEdges n.toNat).length : Int) ((q + 1 : Nat) : Int)) (fun k => ?_) this
          simp only [impl_isConnected.l1]
          rw [c_rdE n.toNat q (by omega), hpp]
          simp only [cE, if_pos g0, if_pos g1, if_pos a1, if_pos a3, if_pos hb', if_neg z0, if_neg z1, hi.1, c_w1 q (show q < 4611686018427387904 by omega)]
    · rw [if_neg hb] at hpass
      have hb' : ¬ Go.bits .and .i64 (shr .i64 e (q : Int)) 1 = 1 := by simpa [cBit] using hb
      refine Ev.step (f := fun k => impl_isConnected.l1 k n e (r : Int) (r != r0) (cEdges n.toNat) ((cEdges n.toNat).length : Int) ((q + 1 : Nat) : Int)) (fun k => ?_) (ih (q + 1) r (by omega) hr h0 hpass)
      simp only [impl_isConnected.l1]
      rw [c_rdE n.toNat q (by omega), hpp]
      simp only [cE, if_pos g0, if_pos g1, if_pos a1, if_pos a3, if_neg hb', c_w1 q (show q < 4611686018427387904 by omega)]
theorem c_full (n : Int) (h3 : 3 ≤ n) (h7 : n ≤ 7) : impl_fullSet.f n = some (2 ^ n.toNat - 1) := by
  rcases c_three7 n h3 h7 with rfl | rfl | rfl | rfl | rfl <;> decide +kernel
theorem c_fullS (n : Int) (h3 : 3 ≤ n) (h7 : n ≤ 7) : 0 ≤ IntKind.u64.wrap n ∧ wrap64 ((shl .i64 1 (IntKind.u64.wrap n)) - 1) = 2 ^ n.toNat - 1 := by
  rcases c_three7 n h3 h7 with rfl | rfl | rfl | rfl | rfl <;> decide +kernel
def cCon (n : Int) (e : Int) : Bool := ((cIter e (cPairs n.toNat) n.toNat 1 : Nat) : Int) == 2 ^ n.toNat - 1
theorem c_implCon_l (n : Int) (h3 : 3 ≤ n) (h7 : n ≤ 7) (e : Int) : ∀ (t r : Nat), r < 2 ^ n.toNat → n.toNat ≤ cPc r + t →
    Ev (fun k => impl_isConnected.l0 k n e (r : Int) true) (((cIter e (cPairs n.toNat) t r : Nat) : Int) == 2 ^ n.toNat - 1) := by
  intro t
  have hg := c_pairs_get n h3 h7
  induction t with
  | zero =>
    intro r hr ht
    have hp := c_pass n.toNat (by omega) e (cPairs n.toNat) 0 r (fun p h => hg p h) hr
    have hfix : cPass e (cPairs n.toNat) 0 r = r := by
      rcases hp.2.2 with h | h
      · exact h
      · have := c_pc_le n.toNat (by omega) _ hp.1; omega
    refine Ev.step (f := fun k => (impl_edgesOf.f k n).bind fun t => impl_isConnected.l1 k n e (r : Int) false t (t.length : Int) 0) (fun k => ?_) ?_
    · simp only [impl_isConnected.l0]; rfl
    · refine Ev.bind (c_edgesOf n h3 h7) ?_
      have := c_implPass n h3 h7 e (((r : Nat) : Int) == 2 ^ n.toNat - 1) r (by
        rw [hfix, bne_self_eq_false]
        refine Ev.step (f := fun k => (impl_fullSet.f n).bind fun t => some ((r : Int) == t)) (fun k => ?_) ?_
        · simp only [impl_isConnected.l0]; rfl
        · rw [c_full n h3 h7]; exact Ev.now _) (cPairs n.toNat).length 0 r (by omega) hr (Nat.le_refl _) (by simp)
      rw [bne_self_eq_false] at this
      simpa [cIter] using this
  | succ t ih =>
    intro r hr ht
    have hp := c_pass n.toNat (by omega) e (cPairs n.toNat) 0 r (fun p h => hg p h) hr
    refine Ev.step (f := fun k => (impl_edgesOf.f k n).bind fun t => impl_isConnected.l1 k n e (r : Int) false t (t.length : Int) 0) (fun k => ?_) ?_
    · simp only [impl_isConnected.l0]; rfl
    · refine Ev.bind (c_edgesOf n h3 h7) ?_
      have := c_implPass n h3 h7 e (((cIter e (cPairs n.toNat) (t + 1) r : Nat) : Int) == 2 ^ n.toNat - 1) r (by
        by_cases hfix : cPass e (cPairs n.toNat) 0 r = r
        · rw [hfix, bne_self_eq_false, c_iter_fix e _ r hfix]
          refine Ev.step (f := fun k => (impl_fullSet.f n).bind fun t => some ((r : Int) == t)) (fun k => ?_) ?_
          · simp only [impl_isConnected.l0]; rfl
          · rw [c_full n h3 h7]; exact Ev.now _
        · rw [show (cPass e (cPairs n.toNat) 0 r != r) = true by simpa using hfix]
          simp only [cIter]
          refine ih _ hp.1 ?_
          rcases hp.2.2 with h | h
          · exact absurd h hfix
          · omega) (cPairs n.toNat).length 0 r (by omega) hr (Nat.le_refl _) (by simp)
      rw [bne_self_eq_false] at this
      simpa using this
theorem c_implCon (n : Int) (h3 : 3 ≤ n) (h7 : n ≤ 7) (e : Int) : Ev (fun k => impl_isConnected.f k n e) (cCon n e) := by
  unfold impl_isConnected.f cCon
  have h2 : 1 < 2 ^ n.toNat := by rcases c_three7 n h3 h7 with rfl | rfl | rfl | rfl | rfl <;> decide
  exact c_implCon_l n h3 h7 e n.toNat 1 h2 (by omega)
/-- The reference's pass. -/
theorem c_specPass (n : Int) (h3 : 3 ≤ n) (h7 : n ≤ 7) (e : Int) (t : Nat) (ht : t < 100) (res : Bool) (rN : Nat) (hres : Ev (fun k => spec_l11Connected.l0 k n e (rN : Int) ((t + 1 : Nat) : Int)) res) : ∀ (d q r : Nat), q + d = (cPairs n.toNat).length → r < 2 ^ n.toNat → cPass e ((cPairs n.toNat).drop q) q r = rN →
    Ev (fun k => spec_l11Connected.l1 k n e (r : Int) (t : Int) (q : Int)) res := by
  intro d
  have hle := c_pairs_le n h3 h7
  have h128 : 2 ^ n.toNat ≤ 128 := by rcases c_three7 n h3 h7 with rfl | rfl | rfl | rfl | rfl <;> decide
  induction d with
  | zero =>
    intro q r hq hr hp
    rw [List.drop_eq_nil_of_le (by omega)] at hp
    simp only [cPass] at hp
    refine Ev.step (f := fun k => spec_l11Connected.l0 k n e (r : Int) ((t + 1 : Nat) : Int)) (fun k => ?_) ?_
    · simp only [spec_l11Connected.l1]; rw [c_pairs7 n h3 h7, if_neg (by omega), c_w1 t (by omega)]
    · rw [hp]; exact hres
  | succ d ih =>
    intro q r hq hr hpass
    rw [c_drop_pair2 _ q (by omega)] at hpass
    have hp := c_pairs_get n h3 h7 _ (c_pair_mem2 _ q (show q < (cPairs n.toNat).length by omega))
    generalize hpp : (cPairs n.toNat).getD q (0, 0) = p at hp hpass
    obtain ⟨i, j⟩ := p
    dsimp only at hp
    have g0 : (q : Int) < ((cPairs n.toNat).length : Int) := by omega
    simp only [cPass] at hpass
    have hs := c_step_lt n.toNat (by omega) j hp.2 i hp.1 r hr
    have hi := c_step_spec j (by omega) i hp.1 r (by omega)
    obtain ⟨hi, w1, w2⟩ := hi
    unfold cStepSpec at hi
    by_cases hb : cBit e q = true
    · rw [if_pos hb] at hpass
      refine Ev.step (f := fun k => (spec_EdgeAt.f k n (q : Int)).bind fun bt => ((spec_l6Has.f (r : Int) bt.1).bind fun t283 => (if t283 = true then (if 0 ≤ (IntKind.u64.wrap (bt.1)) then (if 0 ≤ (IntKind.u64.wrap (bt.2)) then (spec_l11Connected.l1 k n e (Go.bits .or .i64 (Go.bits .or .i64 (r : Int) (shl .i64 1 (IntKind.u64.wrap (bt.1)))) (shl .i64 1 (IntKind.u64.wrap (bt.2)))) (t : Int) ((q + 1 : Nat) : Int)) else (none)) else (none)) else ((spec_l6Has.f (r : Int) bt.2).bind fun t284 => (if t284 = true then (if 0 ≤ (IntKind.u64.wrap (bt.1)) then (if 0 ≤ (IntKind.u64.wrap (bt.2)) then (spec_l11Connected.l1 k n e (Go.bits .or .i64 (Go.bits .or .i64 (r : Int) (shl .i64 1 (IntKind.u64.wrap (bt.1)))) (shl .i64 1 (IntKind.u64.wrap (bt.2)))) (t : Int) ((q + 1 : Nat) : Int)) else (none)) else (none)) else (spec_l11Connected.l1 k n e (r : Int) (t : Int) ((q + 1 : Nat) : Int))))))) (fun k => ?_) ?_
      · simp only [spec_l11Connected.l1]
        rw [c_pairs7 n h3 h7, if_pos g0, c_has e q (by omega), hb, c_w1 q (by omega)]; rfl
      · refine Ev.bind (c_specEdgeAt n h3 h7 (q : Int)) ?_
        have hE : cEdgeAt n (q : Int) = ((i : Int), (j : Int)) := by
          unfold cEdgeAt; rw [if_pos ⟨by omega, g0⟩]; simp only [Int.toNat_natCast, hpp]
        rw [hE]
        by_cases z0 : spec_l6Has.f (r : Int) (i : Int) = some true
        · rw [if_pos z0] at hi
          simp only [z0, Option.bind_some, if_true, if_pos w1, if_pos w2, hi]
          exact ih (q + 1) (cLStep r (i, j)) (by omega) hs.1 hpass
        · rw [if_neg z0] at hi
          obtain ⟨y0, hi⟩ := hi
          by_cases z1 : spec_l6Has.f (r : Int) (j : Int) = some true
          · rw [if_pos z1] at hi
            simp only [y0, z1, Option.bind_some, if_true, Bool.false_eq_true, if_false, if_pos w1, if_pos w2, hi]
            exact ih (q + 1) (cLStep r (i, j)) (by omega) hs.1 hpass
          · rw [if_neg z1] at hi
            rw [hi.2] at hpass
            simp only [y0, hi.1, Option.bind_some, Bool.false_eq_true, if_false]
            exact ih (q + 1) r (by omega) hr hpass
    · rw [if_neg hb] at hpass
      rw [Bool.not_eq_true] at hb
      refine Ev.step (f := fun k => spec_l11Connected.l1 k n e (r : Int) (t : Int) ((q + 1 : Nat) : Int)) (fun k => ?_) (ih (q + 1) r (by omega) hr hpass)
      simp only [spec_l11Connected.l1]
      rw [c_pairs7 n h3 h7, if_pos g0, c_has e q (by omega), hb, c_w1 q (by omega)]; rfl
theorem c_specCon_l (n : Int) (h3 : 3 ≤ n) (h7 : n ≤ 7) (e : Int) : ∀ (d t r : Nat), t + d = n.toNat → r < 2 ^ n.toNat →
    Ev (fun k => spec_l11Connected.l0 k n e (r : Int) (t : Int)) (((cIter e (cPairs n.toNat) d r : Nat) : Int) == 2 ^ n.toNat - 1) := by
  intro d
  have hg := c_pairs_get n h3 h7
  induction d with
  | zero =>
    intro t r ht hr
    have hf := c_fullS n h3 h7
    refine Ev.step (f := fun k => some ((r : Int) == 2 ^ n.toNat - 1)) (fun k => ?_) (Ev.now _)
    simp only [spec_l11Connected.l0]; rw [if_neg (by omega), if_pos hf.1, hf.2]
  | succ d ih =>
    intro t r ht hr
    have hp := c_pass n.toNat (by omega) e (cPairs n.toNat) 0 r (fun p h => hg p h) hr
    refine Ev.step (f := fun k => spec_l11Connected.l1 k n e (r : Int) (t : Int) ((0 : Nat) : Int)) (fun k => ?_) ?_
    · simp only [spec_l11Connected.l0]; rw [if_pos (by omega)]; rfl
    · exact c_specPass n h3 h7 e t (by omega) _ (cPass e (cPairs n.toNat) 0 r) (by simp only [cIter]; exact ih (t + 1) _ (by omega) hp.1) (cPairs n.toNat).length 0 r (by omega) hr (by simp)
theorem c_specCon (n : Int) (h3 : 3 ≤ n) (h7 : n ≤ 7) (e : Int) : Ev (fun k => spec_l11Connected.f k n e) (cCon n e) := by
  unfold spec_l11Connected.f cCon
  have h2 : 1 < 2 ^ n.toNat := by rcases c_three7 n h3 h7 with rfl | rfl | rfl | rfl | rfl <;> decide
  exact c_specCon_l n h3 h7 e n.toNat 0 1 (by omega) h2
theorem c_set_lt (n : Int) (h3 : 3 ≤ n) (h7 : n ≤ 7) (e : Int) (h : cES n e) : 0 ≤ e ∧ e < 2097152 := by
  unfold cES at h
  rcases c_three7 n h3 h7 with rfl | rfl | rfl | rfl | rfl
  · have : (2 : Int) ^ (cPairs (Int.toNat 3)).length = 8 := by decide +kernel
    omega
  · have : (2 : Int) ^ (cPairs (Int.toNat 4)).length = 64 := by decide +kernel
    omega
  · have : (2 : Int) ^ (cPairs (Int.toNat 5)).length = 1024 := by decide +kernel
    omega
  · have : (2 : Int) ^ (cPairs (Int.toNat 6)).length = 32768 := by decide +kernel
    omega
  · have : (2 : Int) ^ (cPairs (Int.toNat 7)).length = 2097152 := by decide +kernel
    omega

end Go.Proofs.Ytiimkifkakdalaa.P
