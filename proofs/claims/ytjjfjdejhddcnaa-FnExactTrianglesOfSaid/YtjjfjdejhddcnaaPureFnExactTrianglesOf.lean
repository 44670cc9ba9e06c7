/- For all signs and sets of edges the program's TrianglesOf returns what the reference's returns. Conditions: none. -/
import Derived.Test.YtjjfjdejhddcnaaCInside
import Derived.Test.YtjjfjdejhddcnaaCTri
import Derived.Test.YtjjfjdejhddcnaaP43
import Derived.Test.YtjjfjdejhddcnaaP75
namespace Go.Proofs.Ytjjfjdejhddcnaa.P
open Go.RowKit Go.Proofs.YtjjfjdejhddcnaaW.PrintWords Go.Proofs.YtjjfjdejhddcnaaW.PrintLast
set_option linter.unusedVariables false
set_option linter.unusedSimpArgs false

theorem c_implIdx_all : ∀ n ∈ [3, 4, 5, 6], ∀ j ∈ List.range n, ∀ i ∈ List.range j, impl_EdgeIndex.f 60 ((n : Nat) : Int) ((i : Nat) : Int) ((j : Nat) : Int) = some ((cIdx n i j : Nat) : Int) ∧ cIdx n i j < 15 := by decide +kernel
theorem c_implIdx (n : Nat) (h3 : 3 ≤ n) (h6 : n ≤ 6) (i j : Nat) (hij : i < j) (hj : j < n) : Ev (fun k => impl_EdgeIndex.f k (n : Int) (i : Int) (j : Int)) ((cIdx n i j : Nat) : Int) ∧ cIdx n i j < 15 := by
  have h := c_implIdx_all n (by simp; omega) j (by simpa using hj) i (by simpa using hij)
  exact ⟨Ev.of (fun k => impl_EdgeIndex.mono _ _ _ k) h.1, h.2⟩
theorem c_mkN (a b c : Nat) (ha : a < 22) (hb : b < 22) (hc : c < 22) : Go.bits .or .i64 (Go.bits .or .i64 (shl .i64 1 (a : Int)) (shl .i64 1 (b : Int))) (shl .i64 1 (c : Int)) = ((2 ^ a ||| 2 ^ b ||| 2 ^ c : Nat) : Int) ∧ 2 ^ a ||| 2 ^ b ||| 2 ^ c < 4194304 := by
  have pa := (c_xshl_all a (by simpa using ha)).2
  have pb := (c_xshl_all b (by simpa using hb)).2
  have pc := (c_xshl_all c (by simpa using hc)).2
  have h1 : 2 ^ a ||| 2 ^ b < 2 ^ 22 := Nat.or_lt_two_pow (by omega) (by omega)
  have h2 : 2 ^ a ||| 2 ^ b ||| 2 ^ c < 2 ^ 22 := Nat.or_lt_two_pow h1 (by omega)
  have hw : ∀ n : Int, 0 ≤ n → n < 2 ^ 40 → IntKind.i64.wrap n = n := fun n h0 h1 => by rw [IntKind.wrap_i64]; omega
  rw [c_xshl a ha, c_xshl b hb, c_xshl c hc, (bits_nat .i64 40 (by decide) hw (2 ^ a) (2 ^ b) (by omega) (by omega)).2, (bits_nat .i64 40 (by decide) hw _ (2 ^ c) (by omega) (by omega)).2]
  exact ⟨rfl, by omega⟩
/-- An empty triangle of edges of the set. -/
def cTg (n : Nat) (s : ByteArray) (e : Nat) (t : Nat × Nat × Nat) : Bool := (e.testBit (cIdx n t.1 t.2.1) && e.testBit (cIdx n t.1 t.2.2) && e.testBit (cIdx n t.2.1 t.2.2)) && (cCnt n s t.1 t.2.1 t.2.2 == 0)
def cB1 (b : Bool) : Nat := if b = true then 1 else 0
theorem c_cnt_cons (f : Nat × Nat × Nat → Bool) (t : Nat × Nat × Nat) (L : List (Nat × Nat × Nat)) : (t :: L).countP f = cB1 (f t) + L.countP f := by
  rw [List.countP_cons, Nat.add_comm]; unfold cB1; rfl
section
variable (n : Nat) (h3 : 3 ≤ n) (h6 : n ≤ 6) (s : ByteArray) (hs : s.size = (cTrips n).length) (e : Nat) (he : e < 32768)
include h3 h6 he
theorem c_implTg_l : ∀ (d m acc : Nat), m + d = (cTrips n).length → acc ≤ m →
    Ev (fun k => impl_TrianglesOf.l0 k (e : Int) (cTab n s) (acc : Int) ((cTrips n).map cT3) (((cTrips n).map cT3).length : Int) (m : Int) (n : Int) s) ((acc + ((cTrips n).drop m).countP (cTg n s e) : Nat) : Int) := by
  have hle := (c_trips_all n (c_five n h3 (by omega))).1
  intro d
  induction d with
  | zero =>
    intro m acc hm ha
    rw [List.drop_eq_nil_of_le (by omega), List.countP_nil, Nat.add_zero]
    refine Ev.step (f := fun _ => some (acc : Int)) (fun k => ?_) (Ev.now _)
    simp only [impl_TrianglesOf.l0]; rw [List.length_map, if_neg (by omega)]
  | succ d ih =>
    intro m acc hm ha
    have hml : m < (cTrips n).length := by omega
    obtain ⟨g1, g2, g3⟩ := c_trips_get n h3 (by omega) m hml
    rw [List.drop_eq_getElem_cons hml, c_cnt_cons]
    have hrd := c_rdT3 (cTrips n) m hml
    generalize (cTrips n)[m] = t at g1 g2 g3 hrd ⊢
    obtain ⟨a, b, c⟩ := t
    simp only at g1 g2 g3
    obtain ⟨i1, l1⟩ := c_implIdx n h3 h6 a b g1 (by omega)
    obtain ⟨i2, l2⟩ := c_implIdx n h3 h6 a c (by omega) g3
    obtain ⟨i3, l3⟩ := c_implIdx n h3 h6 b c g2 g3
    obtain ⟨mk1, mk2⟩ := c_mkN (cIdx n a b) (cIdx n a c) (cIdx n b c) (by omega) (by omega) (by omega)
    have htest : (Go.bits .and .i64 (e : Int) ((2 ^ cIdx n a b ||| 2 ^ cIdx n a c ||| 2 ^ cIdx n b c : Nat) : Int) = ((2 ^ cIdx n a b ||| 2 ^ cIdx n a c ||| 2 ^ cIdx n b c : Nat) : Int)) ↔ (e.testBit (cIdx n a b) && e.testBit (cIdx n a c) && e.testBit (cIdx n b c)) = true := by
      rw [c_andN e _ (by omega) (by omega), ← c_sub3]
      exact Int.ofNat_inj
    have h1 := ih (m + 1) (acc + 1) (by omega) (by omega)
    have h0 := ih (m + 1) acc (by omega) (by omega)
    refine Ev.step (f := fun k => (impl_EdgeIndex.f k (n : Int) (a : Int) (b : Int)).bind fun t712 => (if 0 ≤ t712 then ((impl_EdgeIndex.f k (n : Int) (a : Int) (c : Int)).bind fun t713 => (if 0 ≤ t713 then ((impl_EdgeIndex.f k (n : Int) (b : Int) (c : Int)).bind fun t714 => (if 0 ≤ t714 then (if (Go.bits .and .i64 (e : Int) (Go.bits .or .i64 (Go.bits .or .i64 (shl .i64 1 t712) (shl .i64 1 t713)) (shl .i64 1 t714))) = (Go.bits .or .i64 (Go.bits .or .i64 (shl .i64 1 t712) (shl .i64 1 t713)) (shl .i64 1 t714)) then ((impl_chi_countInside.f k (cTab n s) (a : Int) (b : Int) (c : Int)).bind fun t715 => (if t715 = 0 then (impl_TrianglesOf.l0 k (e : Int) (cTab n s) ((acc + 1 : Nat) : Int) ((cTrips n).map cT3) (((cTrips n).map cT3).length : Int) ((m + 1 : Nat) : Int) (n : Int) s) else (impl_TrianglesOf.l0 k (e : Int) (cTab n s) (acc : Int) ((cTrips n).map cT3) (((cTrips n).map cT3).length : Int) ((m + 1 : Nat) : Int) (n : Int) s))) else (impl_TrianglesOf.l0 k (e : Int) (cTab n s) (acc : Int) ((cTrips n).map cT3) (((cTrips n).map cT3).length : Int) ((m + 1 : Nat) : Int) (n : Int) s)) else (none))) else (none))) else (none))) (fun k => ?_) ?_
    · simp only [impl_TrianglesOf.l0]
      rw [hrd, List.length_map, if_pos (show (m : Int) < ((cTrips n).length : Int) by omega), if_pos (show (0 : Int) ≤ (m : Int) by omega), if_pos (show (m : Int) < ((cTrips n).length : Int) by omega), c_w1 m (by omega), c_w1 acc (by omega)]
      rfl
    · refine Ev.bind i1 ?_
      simp only [if_pos (show (0 : Int) ≤ ((cIdx n a b : Nat) : Int) by omega)]
      refine Ev.bind i2 ?_
      simp only [if_pos (show (0 : Int) ≤ ((cIdx n a c : Nat) : Int) by omega)]
      refine Ev.bind i3 ?_
      simp only [if_pos (show (0 : Int) ≤ ((cIdx n b c : Nat) : Int) by omega), mk1, htest]
      by_cases hb : (e.testBit (cIdx n a b) && e.testBit (cIdx n a c) && e.testBit (cIdx n b c)) = true
      · simp only [if_pos hb]
        refine Ev.bind (c_implCnt n h3 (by omega) s a b c g1 g2 g3) ?_
        by_cases hz : cCnt n s a b c = 0
        · have eg : cTg n s e (a, b, c) = true := by unfold cTg; rw [hb, hz]; rfl
          rw [eg, show cB1 true = 1 from rfl, ← Nat.add_assoc]
          simp only [if_pos (show ((cCnt n s a b c : Nat) : Int) = 0 by omega)]
          exact h1
        · have eg : cTg n s e (a, b, c) = false := by unfold cTg; rw [hb, beq_eq_false_iff_ne.2 hz]; rfl
          rw [eg, show cB1 false = 0 from rfl, Nat.zero_add]
          simp only [if_neg (show ¬ ((cCnt n s a b c : Nat) : Int) = 0 by omega)]
          exact h0
      · have eg : cTg n s e (a, b, c) = false := by
          unfold cTg
          rw [Bool.not_eq_true] at hb
          rw [hb, Bool.false_and]
        rw [eg, show cB1 false = 0 from rfl, Nat.zero_add]
        simp only [if_neg hb]
        exact h0
include hs
theorem c_tg2 (a b : Nat) (hab : a < b) (hb : b < n) (rest : Nat) (hr : ∀ acc : Nat, acc ≤ 1000 + 50 * a + 7 * (b + 1) → Ev (fun k => spec_TrianglesOf.l1 k (e : Int) (acc : Int) (a : Int) ((b + 1 : Nat) : Int) (n : Int) s) ((acc + rest : Nat) : Int)) : ∀ (d c acc : Nat), b < c → c + d = n → acc ≤ 1000 + 50 * a + 7 * b + c →
    Ev (fun k => spec_TrianglesOf.l2 k (e : Int) (acc : Int) (a : Int) (b : Int) (c : Int) (n : Int) s) ((acc + (((List.range' c d).map fun c => (a, b, c)).countP (cTg n s e) + rest) : Nat) : Int) := by
  intro d
  induction d with
  | zero =>
    intro c acc hbc hc ha
    rw [show ((List.range' c 0).map fun c => (a, b, c)).countP (cTg n s e) = 0 from rfl, Nat.zero_add]
    refine Ev.step (fun k => ?_) (hr acc (by omega))
    simp only [spec_TrianglesOf.l2]; rw [if_neg (by omega), c_w1 b (by omega)]
  | succ d ih =>
    intro c acc hbc hc ha
    rw [List.range'_succ, List.map_cons, c_cnt_cons]
    have l1 := (c_implIdx_all n (by simp; omega) b (by simp; omega) a (by simpa using hab)).2
    have l2 := (c_implIdx_all n (by simp; omega) c (by simp; omega) b (by simpa using hbc)).2
    have l3 := (c_implIdx_all n (by simp; omega) c (by simp; omega) a (by simp; omega)).2
    have h1 := ih (c + 1) (acc + 1) (by omega) (by omega) (by omega)
    have h0 := ih (c + 1) acc (by omega) (by omega) (by omega)
    have hh : ∀ q : Nat, q < 15 → spec_l6Has.f (e : Int) (q : Int) = some (e.testBit q) := fun q hq => by rw [c_has _ q (by omega), c_cBit e q (by omega) (by omega)]
    have hgo : ∀ x : Bool, cTg n s e (a, b, c) = x → Ev (fun k => spec_TrianglesOf.l2 k (e : Int) ((acc + cB1 x : Nat) : Int) (a : Int) (b : Int) ((c + 1 : Nat) : Int) (n : Int) s) ((acc + (cB1 (cTg n s e (a, b, c)) + ((List.range' (c + 1) d).map fun c => (a, b, c)).countP (cTg n s e) + rest) : Nat) : Int) := by
      intro x hx
      rw [hx]
      cases x with
      | true => rw [show cB1 true = 1 from rfl, show acc + (1 + ((List.range' (c + 1) d).map fun c => (a, b, c)).countP (cTg n s e) + rest) = acc + 1 + (((List.range' (c + 1) d).map fun c => (a, b, c)).countP (cTg n s e) + rest) by omega]; exact h1
      | false => rw [show cB1 false = 0 from rfl, Nat.zero_add, Nat.add_zero]; exact h0
    refine Ev.step (f := fun k => (spec_l9Index.f k (n : Int) (a : Int) (b : Int)).bind fun t672 => (spec_l6Has.f (e : Int) t672).bind fun t673 => (if t673 = true then ((spec_l9Index.f k (n : Int) (b : Int) (c : Int)).bind fun t674 => ((spec_l6Has.f (e : Int) t674).bind fun t675 => (if t675 = true then ((spec_l9Index.f k (n : Int) (a : Int) (c : Int)).bind fun t676 => ((spec_l6Has.f (e : Int) t676).bind fun t677 => (if t677 = true then ((spec_l5Inside.f k (n : Int) s (a : Int) (b : Int) (c : Int)).bind fun t678 => (if t678 = 0 then (spec_TrianglesOf.l2 k (e : Int) ((acc + 1 : Nat) : Int) (a : Int) (b : Int) ((c + 1 : Nat) : Int) (n : Int) s) else (spec_TrianglesOf.l2 k (e : Int) (acc : Int) (a : Int) (b : Int) ((c + 1 : Nat) : Int) (n : Int) s))) else (spec_TrianglesOf.l2 k (e : Int) (acc : Int) (a : Int) (b : Int) ((c + 1 : Nat) : Int) (n : Int) s)))) else (spec_TrianglesOf.l2 k (e : Int) (acc : Int) (a : Int) (b : Int) ((c + 1 : Nat) : Int) (n : Int) s)))) else (spec_TrianglesOf.l2 k (e : Int) (acc : Int) (a : Int) (b : Int) ((c + 1 : Nat) : Int) (n : Int) s))) (fun k => ?_) ?_
    · simp only [spec_TrianglesOf.l2]
      rw [if_pos (show (c : Int) < (n : Int) by omega), c_w1 c (by omega), c_w1 acc (by omega)]
    · refine Ev.bind (c_l9 n h3 (by omega) a b hab hb) ?_
      simp only [hh _ l1, Option.bind_some]
      cases b1 : e.testBit (cIdx n a b) with
      | false =>
        simp only [Bool.false_eq_true, if_false]
        exact hgo false (by unfold cTg; simp only [b1, Bool.false_and])
      | true =>
        simp only [if_true]
        refine Ev.bind (c_l9 n h3 (by omega) b c hbc (by omega)) ?_
        simp only [hh _ l2, Option.bind_some]
        cases b2 : e.testBit (cIdx n b c) with
        | false =>
          simp only [Bool.false_eq_true, if_false]
          exact hgo false (by unfold cTg; simp only [b2, Bool.and_false, Bool.false_and])
        | true =>
          simp only [if_true]
          refine Ev.bind (c_l9 n h3 (by omega) a c (by omega) (by omega)) ?_
          simp only [hh _ l3, Option.bind_some]
          cases b3 : e.testBit (cIdx n a c) with
          | false =>
            simp only [Bool.false_eq_true, if_false]
            exact hgo false (by unfold cTg; simp only [b3, Bool.and_false, Bool.false_and])
          | true =>
            simp only [if_true]
            refine Ev.bind (c_specCnt n h3 (by omega) s a b c hab hbc (by omega) hs) ?_
            by_cases hz : cCnt n s a b c = 0
            · simp only [if_pos (show ((cCnt n s a b c : Nat) : Int) = 0 by omega)]
              exact hgo true (by unfold cTg; simp only [b1, b2, b3, hz]; rfl)
            · simp only [if_neg (show ¬ ((cCnt n s a b c : Nat) : Int) = 0 by omega)]
              exact hgo false (by unfold cTg; simp only [b1, b2, b3, beq_eq_false_iff_ne.2 hz]; rfl)
def cP1 (n a b d : Nat) : List (Nat × Nat × Nat) := (List.range' b d).flatMap fun b => (List.range' (b + 1) (n - (b + 1))).map fun c => (a, b, c)
def cP0 (n a d : Nat) : List (Nat × Nat × Nat) := (List.range' a d).flatMap fun a => cP1 n a (a + 1) (n - (a + 1))
theorem c_tg1 (a : Nat) (ha : a < n) (rest : Nat) (hr : ∀ acc : Nat, acc ≤ 1000 + 50 * (a + 1) → Ev (fun k => spec_TrianglesOf.l0 k (e : Int) (acc : Int) ((a + 1 : Nat) : Int) (n : Int) s) ((acc + rest : Nat) : Int)) : ∀ (d b acc : Nat), a < b → b + d = n → acc ≤ 1000 + 50 * a + 7 * b →
    Ev (fun k => spec_TrianglesOf.l1 k (e : Int) (acc : Int) (a : Int) (b : Int) (n : Int) s) ((acc + ((cP1 n a b d).countP (cTg n s e) + rest) : Nat) : Int) := by
  intro d
  induction d with
  | zero =>
    intro b acc hab hb hacc
    rw [show (cP1 n a b 0).countP (cTg n s e) = 0 from rfl, Nat.zero_add]
    refine Ev.step (fun k => ?_) (hr acc (by omega))
    simp only [spec_TrianglesOf.l1]; rw [if_neg (by omega), c_w1 a (by omega)]
  | succ d ih =>
    intro b acc hab hb hacc
    have e1 : (cP1 n a b (d + 1)).countP (cTg n s e) = ((List.range' (b + 1) (n - (b + 1))).map fun c => (a, b, c)).countP (cTg n s e) + (cP1 n a (b + 1) d).countP (cTg n s e) := by
      unfold cP1; rw [List.range'_succ, List.flatMap_cons, List.countP_append]
    rw [e1, Nat.add_assoc]
    refine Ev.step (fun k => ?_) (c_tg2 n h3 h6 s hs e he a b hab (by omega) ((cP1 n a (b + 1) d).countP (cTg n s e) + rest) (fun acc' h => ih (b + 1) acc' (by omega) (by omega) (by omega)) (n - (b + 1)) (b + 1) acc (by omega) (by omega) (by omega))
    simp only [spec_TrianglesOf.l1]; rw [if_pos (by omega), c_w1 b (by omega)]
theorem c_tg0 : ∀ (d a acc : Nat), a + d = n → acc ≤ 1000 + 50 * a →
    Ev (fun k => spec_TrianglesOf.l0 k (e : Int) (acc : Int) (a : Int) (n : Int) s) ((acc + (cP0 n a d).countP (cTg n s e) : Nat) : Int) := by
  intro d
  induction d with
  | zero =>
    intro a acc ha hacc
    rw [show (cP0 n a 0).countP (cTg n s e) = 0 from rfl, Nat.add_zero]
    refine Ev.step (f := fun _ => some (acc : Int)) (fun k => ?_) (Ev.now _)
    simp only [spec_TrianglesOf.l0]; rw [if_neg (by omega)]
  | succ d ih =>
    intro a acc ha hacc
    have e1 : (cP0 n a (d + 1)).countP (cTg n s e) = (cP1 n a (a + 1) (n - (a + 1))).countP (cTg n s e) + (cP0 n (a + 1) d).countP (cTg n s e) := by
      unfold cP0; rw [List.range'_succ, List.flatMap_cons, List.countP_append]
    rw [e1]
    refine Ev.step (fun k => ?_) (c_tg1 n h3 h6 s hs e he a (by omega) ((cP0 n (a + 1) d).countP (cTg n s e)) (fun acc' h => ih (a + 1) acc' (by omega) (by omega)) (n - (a + 1)) (a + 1) acc (by omega) (by omega) (by omega))
    simp only [spec_TrianglesOf.l0]; rw [if_pos (by omega), c_w1 a (by omega)]
end
/-- What TrianglesOf answers. -/
def cTo (n : Int) (s : ByteArray) (e : Int) : Int := if cTri n s e = true then (((cTrips n.toNat).countP (cTg n.toNat s e.toNat) : Nat) : Int) else -1
theorem c_specTo (n : Int) (s : ByteArray) (hs : s.size ≤ 1099511627776) (e : Int) : Ev (fun k => spec_TrianglesOf.f k n s e) (cTo n s e) := by
  unfold spec_TrianglesOf.f cTo
  refine Ev.bind (c_specTri n s hs e) ?_
  by_cases h : cTri n s e = true
  · obtain ⟨m, x, rfl, rfl, h3, h6, hz, hf, hE, hfull, hx, hx2⟩ := c_tri_open n s e h
    simp only [h, if_true, Int.toNat_natCast]
    have hp : cP0 m 0 m = cTrips m := by unfold cP0 cP1 cTrips; rw [List.range_eq_range']
    have := c_tg0 m h3 h6 s hz x hx2 m 0 0 (by omega) (by omega)
    rw [hp, Nat.zero_add] at this
    exact this
  · rw [Bool.not_eq_true] at h
    simp only [h, Bool.false_eq_true, if_false]; exact Ev.now _
theorem c_implTo (n : Int) (s : ByteArray) (hs : s.size ≤ 1099511627776) (e : Int) : Ev (fun k => impl_TrianglesOf.f k n s e) (cTo n s e) := by
  unfold impl_TrianglesOf.f cTo
  refine Ev.bind (c_implTri n s hs e) ?_
  by_cases h : cTri n s e = true
  · obtain ⟨m, x, rfl, rfl, h3, h6, hz, hf, hE, hfull, hx, hx2⟩ := c_tri_open n s e h
    simp only [h, if_true, Int.toNat_natCast]
    refine Ev.bind (c_tableOf m h3 (by omega) s hz) (Ev.bind (c_triplesOf m h3 (by omega)) ?_)
    have := c_implTg_l m h3 h6 s x hx2 (cTrips m).length 0 0 (by omega) (by omega)
    rw [Nat.zero_add, List.drop_zero] at this
    exact this
  · rw [Bool.not_eq_true] at h
    simp only [h, Bool.false_eq_true, if_false]; exact Ev.now _

end Go.Proofs.Ytjjfjdejhddcnaa.P
namespace Go.Proofs.Ytjjfjdejhddcnaa.Pure
open Go.RowKit Go.Proofs.Ytjjfjdejhddcnaa.P Go.Proofs.YtjjfjdejhddcnaaW.PrintWords Go.Proofs.YtjjfjdejhddcnaaW.PrintLast
set_option linter.unusedVariables false

theorem FnExactTrianglesOf : laws_FnExactTrianglesOf.Pure := by
  intro n s e _ hs0 _
  apply Ev.rounds
  unfold laws_FnExactTrianglesOf.f laws_szSigns.f laws_toSigns.f
  by_cases hz : wrap64 (1048576 - (s.size : Int)) < 0
  · simp only [if_pos hz, Option.bind_some, show ((-1 : Int) < 0) by decide, if_true]
    exact Ev.now _
  · simp only [if_neg hz, Option.bind_some]
    have hs : s.size ≤ 1099511627776 := by rw [c_wid _ (by omega) (by omega)] at hz; omega
    refine Ev.bind (c_specTo n s hs e) (Ev.bind (c_implTo n s hs e) ?_)
    simp only [if_true]
    exact Ev.now _

end Go.Proofs.Ytjjfjdejhddcnaa.Pure
