/- FreeEdges: what the reference and the program compute. Conditions: the text is at most 2^40 long. -/
import Derived.Test.YtmidcafamppkeaaCXing
import Derived.Test.YtmidcafamppkeaaP20
import Derived.Test.YtmidcafamppkeaaP16
namespace Go.Proofs.Ytmidcafamppkeaa.P
open Go.RowKit Go.Proofs.YtmidcafamppkeaaW.PrintWords Go.Proofs.YtmidcafamppkeaaW.PrintLast
set_option linter.unusedVariables false

theorem c_plusF (acc q : Nat) (hq : q < 22) (ha : acc < 2 ^ q) : wrap64 ((acc : Int) + shl .i64 1 (IntKind.u64.wrap (q : Int))) = ((acc + 2 ^ q : Nat) : Int) := by
  have hp := (c_xshl_all q (by simpa using hq)).2
  rw [IntWalk.u64_in _ ⟨by omega, by omega⟩, c_xshl q hq, c_wid _ (by omega) (by omega)]
  omega
/-- Does no edge cross it? -/
def cFr (n : Nat) (s : ByteArray) (p : Nat × Nat) : Bool := !((cPairs n).any (cCx n s p))
theorem c_sum_zero (f : Nat → Bool) : ∀ (d q : Nat), cSum f q d = 0 ↔ ∀ x, q ≤ x → x < q + d → f x = false := by
  intro d
  induction d with
  | zero => intro q; exact ⟨fun _ x h1 h2 => by omega, fun _ => rfl⟩
  | succ d ih =>
    intro q
    rw [c_sum_succ]
    constructor
    · intro h x h1 h2
      by_cases hf : f q = true
      · rw [if_pos hf] at h; have := Nat.two_pow_pos q; omega
      · by_cases hx : x = q
        · subst hx; simpa using hf
        · exact (ih (q + 1)).1 (by omega) x (by omega) (by omega)
    · intro h
      rw [if_neg (by rw [h q (Nat.le_refl _) (by omega)]; simp), (ih (q + 1)).2 (fun x h1 h2 => h x (by omega) (by omega))]
theorem c_row_zero (n : Nat) (s : ByteArray) (p : Nat × Nat) : (cRow n s p 0 (cPairs n).length = 0) ↔ cFr n s p = true := by
  unfold cRow cFr
  rw [c_sum_zero]
  simp only [Bool.not_eq_true', List.any_eq_false, Bool.not_eq_true]
  constructor
  · intro h x hx
    obtain ⟨i, hi, he⟩ := List.mem_iff_getElem.1 hx
    have := h i (by omega) (by omega)
    rw [List.getD_eq_getElem?_getD, List.getElem?_eq_getElem hi] at this
    rw [← he]; exact this
  · intro h x h1 h2
    rw [List.getD_eq_getElem?_getD, List.getElem?_eq_getElem (by omega)]
    exact h _ (List.getElem_mem _)
/-- The free edges from position q on. -/
def cFs (n : Nat) (s : ByteArray) (q d : Nat) : Nat := cSum (fun q => cFr n s ((cPairs n).getD q (0, 0))) q d
theorem c_implFree (n : Nat) (h3 : 3 ≤ n) (h7 : n ≤ 7) (s : ByteArray) : ∀ (d q acc : Nat), q + d = (cPairs n).length → acc < 2 ^ q →
    Ev (fun k => impl_FreeEdges.l0 k (acc : Int) (cRows n s) ((cRows n s).length : Int) (q : Int)) ((acc + cFs n s q d : Nat) : Int) := by
  have hle := c_pairs_le (n : Int) (by omega) (by omega)
  rw [Int.toNat_natCast] at hle
  have hlr : (cRows n s).length = (cPairs n).length := by simp [cRows]
  intro d
  induction d with
  | zero =>
    intro q acc hq ha
    refine Ev.step (f := fun _ => some (acc : Int)) (fun k => ?_) (Ev.now _)
    simp only [impl_FreeEdges.l0]; rw [if_neg (by omega)]
  | succ d ih =>
    intro q acc hq ha
    have hql : q < (cPairs n).length := by omega
    have hget : rd (cRows n s) (q : Int) = ((cRow n s ((cPairs n).getD q (0, 0)) 0 (cPairs n).length : Nat) : Int) := by
      rw [c_rd]
      unfold cRows
      rw [List.getD_eq_getElem?_getD, List.getElem?_map, List.getD_eq_getElem?_getD, List.getElem?_eq_getElem hql]; rfl
    have hz := c_row_zero n s ((cPairs n).getD q (0, 0))
    unfold cFs
    rw [c_sum_succ]
    by_cases hf : cFr n s ((cPairs n).getD q (0, 0)) = true
    · rw [if_pos hf, ← Nat.add_assoc]
      refine Ev.step (fun k => ?_) (ih (q + 1) (acc + 2 ^ q) (by omega) (by rw [Nat.pow_succ]; omega))
      simp only [impl_FreeEdges.l0]
      rw [if_pos (by omega), if_pos (by omega), if_pos (by omega), hget, if_pos (by have := hz.2 hf; omega), c_xor acc q (by omega) ha, c_w1 q (by omega)]
    · rw [if_neg hf, Nat.zero_add]
      refine Ev.step (fun k => ?_) (ih (q + 1) acc (by omega) (by rw [Nat.pow_succ]; omega))
      simp only [impl_FreeEdges.l0]
      rw [if_pos (by omega), if_pos (by omega), if_pos (by omega), hget, if_neg (by intro h; exact hf (hz.1 (by omega))), c_w1 q (by omega)]
/-! ### the reference's -/
def cF3 (a b d : Nat) : List (Nat × Nat) := (List.range' b d).map fun b => (a, b)
def cF2 (n a d : Nat) : List (Nat × Nat) := (List.range' a d).flatMap fun a => cF3 a (a + 1) (n - (a + 1))
theorem c_f2 (n : Nat) : cF2 n 0 n = cPairs n := by unfold cF2 cF3 cPairs; rw [List.range_eq_range']
def cStF (n i : Nat) : Nat := i * (2 * n - i - 1) / 2
theorem c_st_allF : ∀ n ∈ [3, 4, 5, 6, 7], cStF n 0 = 0 ∧ cStF n n = (cPairs n).length ∧ ∀ i ∈ List.range n, cIdx n i n = cStF n (i + 1) ∧ cIdx n i (i + 1) = cStF n i ∧ cStF n i ≤ (cPairs n).length := by decide +kernel
section
variable (n : Nat) (h3 : 3 ≤ n) (h7 : n ≤ 7) (s : ByteArray) (hs : s.size = (cTrips n).length)
include h3 h7 hs
theorem c_free3 (out : Int) (i j : Nat) (hij : i < j) (hj : j < n) (G : Bool → Int) (a : Nat) (ha : a < n) (rest : List (Nat × Nat)) (hr : ∀ fr, Ev (fun k => spec_FreeEdges.l2 k out (i : Int) (j : Int) fr ((a + 1 : Nat) : Int) (n : Int) s) (G (fr && !(rest.any (cCx n s (i, j)))))) : ∀ (d b : Nat) (fr : Bool), b + d = n → a < b →
    Ev (fun k => spec_FreeEdges.l3 k out (i : Int) (j : Int) fr (a : Int) (b : Int) (n : Int) s) (G (fr && !((cF3 a b d ++ rest).any (cCx n s (i, j))))) := by
  intro d
  induction d with
  | zero =>
    intro b fr hb hab
    refine Ev.step (fun k => ?_) (hr fr)
    simp only [spec_FreeEdges.l3]; rw [if_neg (by omega), c_w1 a (by omega)]
  | succ d ih =>
    intro b fr hb hab
    unfold cF3
    rw [List.range'_succ, List.map_cons, List.cons_append, List.any_cons]
    cases fr with
    | true =>
      refine Ev.step (f := fun k => (spec_l9Cross.f k (n : Int) s (i : Int) (j : Int) (a : Int) (b : Int)).bind fun t => spec_FreeEdges.l3 k out (i : Int) (j : Int) (!t) (a : Int) ((b + 1 : Nat) : Int) (n : Int) s) (fun k => ?_) (Ev.bind (c_specCx n h3 h7 s hs i j a b hij hj hab (by omega)) ?_)
      · simp only [spec_FreeEdges.l3, if_true]; rw [if_pos (by omega), c_w1 b (by omega)]
      · have h := ih (b + 1) (!(cCx n s (i, j) (a, b))) (by omega) (by omega)
        rw [Bool.not_or, Bool.true_and]
        exact h
    | false =>
      refine Ev.step (fun k => ?_) (ih (b + 1) false (by omega) (by omega))
      simp only [spec_FreeEdges.l3, Bool.false_eq_true, if_false]; rw [if_pos (by omega), c_w1 b (by omega)]
theorem c_free2 (out : Int) (i j : Nat) (hij : i < j) (hj : j < n) (G : Bool → Int) (hG : ∀ fr, Ev (fun k => spec_FreeEdges.l2 k out (i : Int) (j : Int) fr (n : Int) (n : Int) s) (G fr)) : ∀ (d a : Nat) (fr : Bool), a + d = n →
    Ev (fun k => spec_FreeEdges.l2 k out (i : Int) (j : Int) fr (a : Int) (n : Int) s) (G (fr && !((cF2 n a d).any (cCx n s (i, j))))) := by
  intro d
  induction d with
  | zero =>
    intro a fr ha
    obtain rfl : a = n := by omega
    have h := hG fr
    have e : (fr && !((cF2 a a 0).any (cCx a s (i, j)))) = fr := by cases fr <;> rfl
    rw [e]; exact h
  | succ d ih =>
    intro a fr ha
    unfold cF2
    rw [List.range'_succ, List.flatMap_cons]
    refine Ev.step (fun k => ?_) (c_free3 n h3 h7 s hs out i j hij hj G a (by omega) _ (fun fr => ih (a + 1) fr (by omega)) (n - (a + 1)) (a + 1) fr (by omega) (by omega))
    simp only [spec_FreeEdges.l2]; rw [if_pos (by omega), c_w1 a (by omega)]
theorem c_specFree1 (i : Nat) (hi : i < n) (hr : ∀ acc : Nat, acc < 2 ^ cStF n (i + 1) → Ev (fun k => spec_FreeEdges.l0 k (acc : Int) ((i + 1 : Nat) : Int) (n : Int) s) ((acc + cFs n s (cStF n (i + 1)) ((cPairs n).length - cStF n (i + 1)) : Nat) : Int)) : ∀ (d j acc : Nat), j + d = n → i < j → acc < 2 ^ cIdx n i j →
    Ev (fun k => spec_FreeEdges.l1 k (acc : Int) (i : Int) (j : Int) (n : Int) s) ((acc + cFs n s (cIdx n i j) ((cPairs n).length - cIdx n i j) : Nat) : Int) := by
  have hle := c_pairs_le (n : Int) (by omega) (by omega)
  rw [Int.toNat_natCast] at hle
  intro d
  induction d with
  | zero =>
    intro j acc hj hij ha
    obtain rfl : j = n := by omega
    have hc := ((c_st_allF j (c_five j h3 h7)).2.2 i (by simpa using hi)).1
    rw [hc] at ha ⊢
    refine Ev.step (fun k => ?_) (hr acc ha)
    simp only [spec_FreeEdges.l1]; rw [if_neg (by omega), c_w1 i (by omega)]
  | succ d ih =>
    intro j acc hj hij ha
    have hjn : j < n := by omega
    have hq := c_idx_lt n h3 h7 i j hij hjn
    have hget : (cPairs n).getD (cIdx n i j) (0, 0) = (i, j) := (c_l9_all n (c_five n h3 h7) j (by simpa using hjn) i (by simpa using hij)).2.2
    have hnext : cIdx n i (j + 1) = cIdx n i j + 1 := by unfold cIdx; omega
    have h9 := c_l9 n h3 h7 i j hij hjn
    have hsum : cFs n s (cIdx n i j) ((cPairs n).length - cIdx n i j) = (if cFr n s (i, j) = true then 2 ^ cIdx n i j else 0) + cFs n s (cIdx n i j + 1) ((cPairs n).length - (cIdx n i j + 1)) := by
      rw [show (cPairs n).length - cIdx n i j = ((cPairs n).length - (cIdx n i j + 1)) + 1 by omega]
      unfold cFs
      rw [c_sum_succ, hget]
    rw [hsum]
    have h2 := c_free2 n h3 h7 s hs (acc : Int) i j hij hjn (fun fr => ((acc + ((if fr = true then 2 ^ cIdx n i j else 0) + cFs n s (cIdx n i j + 1) ((cPairs n).length - (cIdx n i j + 1))) : Nat) : Int)) (fun fr => by
      cases fr with
      | true =>
        simp only [if_true]
        refine Ev.step (f := fun k => (spec_l9Index.f k (n : Int) (i : Int) (j : Int)).bind fun t => if 0 ≤ IntKind.u64.wrap t then spec_FreeEdges.l1 k (wrap64 ((acc : Int) + shl .i64 1 (IntKind.u64.wrap t))) (i : Int) ((j + 1 : Nat) : Int) (n : Int) s else none) (fun k => ?_) (Ev.bind h9 ?_)
        · simp only [spec_FreeEdges.l2, if_true]; rw [if_neg (by omega), c_w1 j (by omega)]
        · have hu : (0 : Int) ≤ IntKind.u64.wrap ((cIdx n i j : Nat) : Int) := by rw [IntWalk.u64_in _ ⟨by omega, by omega⟩]; omega
          simp only [if_pos hu]
          rw [c_plusF acc (cIdx n i j) (by omega) ha, ← Nat.add_assoc]
          have h := ih (j + 1) (acc + 2 ^ cIdx n i j) (by omega) (by omega) (by rw [hnext, Nat.pow_succ]; omega)
          rw [hnext] at h
          exact h
      | false =>
        simp only [Bool.false_eq_true, if_false, Nat.zero_add]
        have h := ih (j + 1) acc (by omega) (by omega) (by rw [hnext, Nat.pow_succ]; omega)
        rw [hnext] at h
        refine Ev.step (fun k => ?_) h
        simp only [spec_FreeEdges.l2, Bool.false_eq_true, if_false]; rw [if_neg (by omega), c_w1 j (by omega)]) n 0 true (by omega)
    rw [c_f2] at h2
    refine Ev.step (fun k => ?_) h2
    simp only [spec_FreeEdges.l1]; rw [if_pos (by omega)]; rfl
theorem c_specFree0 (hA : Ev (fun k => spec_IsAcyclic.f k (n : Int) s) true) : ∀ (d i acc : Nat), i + d = n → acc < 2 ^ cStF n i →
    Ev (fun k => spec_FreeEdges.l0 k (acc : Int) (i : Int) (n : Int) s) ((acc + cFs n s (cStF n i) ((cPairs n).length - cStF n i) : Nat) : Int) := by
  intro d
  induction d with
  | zero =>
    intro i acc hi ha
    obtain rfl : i = n := by omega
    have hc := (c_st_allF i (c_five i h3 h7)).2.1
    rw [hc, Nat.sub_self]
    refine Ev.step (f := fun k => spec_FreeEdges.j1 k (acc : Int) (i : Int) false (i : Int) s) (fun k => ?_) (Ev.step (f := fun _ => some (acc : Int)) (fun k => ?_) (Ev.now _))
    · simp only [spec_FreeEdges.l0]; rw [if_neg (by omega)]
    · simp only [spec_FreeEdges.j1, Bool.false_eq_true, if_false]
  | succ d ih =>
    intro i acc hi ha
    have hin : i < n := by omega
    have hc := ((c_st_allF n (c_five n h3 h7)).2.2 i (by simpa using hin)).2.1
    have h1 := c_specFree1 n h3 h7 s hs i hin (fun (acc : Nat) h => ih (i + 1) acc (by omega) h) d (i + 1) acc (by omega) (by omega) (by rw [hc]; exact ha)
    rw [hc] at h1
    refine Ev.step (f := fun k => (spec_IsAcyclic.f k (n : Int) s).bind fun t => spec_FreeEdges.j1 k (acc : Int) (i : Int) t (n : Int) s) (fun k => ?_) (Ev.bind hA (Ev.step (fun k => ?_) h1))
    · simp only [spec_FreeEdges.l0]; rw [if_pos (by omega)]
    · simp only [spec_FreeEdges.j1, if_true]; rw [c_w1 i (by omega)]
end
def cFreeEdges (n : Int) (s : ByteArray) : Int := if cAcy n s = true then ((cFs n.toNat s 0 (cPairs n.toNat).length : Nat) : Int) else 0
theorem c_specFreeEdges (n : Int) (s : ByteArray) (hs : s.size ≤ 1099511627776) : Ev (fun k => spec_FreeEdges.f k n s) (cFreeEdges n s) := by
  have hA := c_specAcy n s hs
  unfold spec_FreeEdges.f cFreeEdges
  by_cases h : cAcy n s = true
  · rw [h] at hA
    rw [if_pos h]
    obtain ⟨m, rfl, h3, h7, hz2⟩ := c_acy_open n s h
    have hst := (c_st_allF m (c_five m h3 h7)).1
    have hS := c_specFree0 m h3 h7 s hz2 hA m 0 0 (by omega) (by rw [hst]; decide)
    rw [hst, Nat.zero_add, Nat.sub_zero] at hS
    rw [Int.toNat_natCast]; exact hS
  · rw [if_neg h]
    rw [Bool.not_eq_true] at h
    rw [h] at hA
    by_cases h0 : (0 : Int) < n
    · refine Ev.step (f := fun k => (spec_IsAcyclic.f k n s).bind fun t => spec_FreeEdges.j1 k 0 0 t n s) (fun k => by simp only [spec_FreeEdges.l0]; rw [if_pos h0]) (Ev.bind hA (Ev.step (f := fun _ => some 0) (fun k => ?_) (Ev.now _)))
      simp only [spec_FreeEdges.j1, Bool.false_eq_true, if_false]
    · refine Ev.step (f := fun k => spec_FreeEdges.j1 k 0 0 false n s) (fun k => by simp only [spec_FreeEdges.l0]; rw [if_neg h0]) (Ev.step (f := fun _ => some 0) (fun k => ?_) (Ev.now _))
      simp only [spec_FreeEdges.j1, Bool.false_eq_true, if_false]
theorem c_implFreeEdges (n : Int) (s : ByteArray) (hs : s.size ≤ 1099511627776) : Ev (fun k => impl_FreeEdges.f k n s) (cFreeEdges n s) := by
  have hO := c_orderOf n s hs
  unfold impl_FreeEdges.f cFreeEdges
  by_cases h : cAcy n s = true
  · rw [if_pos h] at hO
    rw [if_pos h]
    obtain ⟨m, rfl, h3, h7, hz2⟩ := c_acy_open n s h
    have hI := c_implFree m h3 h7 s (cPairs m).length 0 0 (by omega) (by decide)
    rw [Nat.zero_add] at hI
    refine Ev.bind hO ?_
    simp only [if_true, Int.toNat_natCast]
    exact Ev.bind (c_crossings m h3 h7 s) hI
  · rw [if_neg h] at hO
    rw [if_neg h]
    refine Ev.bind hO ?_
    simp only [Bool.false_eq_true, if_false]; exact Ev.now _

end Go.Proofs.Ytmidcafamppkeaa.P
