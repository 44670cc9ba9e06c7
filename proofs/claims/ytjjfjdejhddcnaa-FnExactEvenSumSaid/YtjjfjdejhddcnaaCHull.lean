/- Triangles and the elements inside of them, extreme elements, convex sets: what the program and the reference compute. Conditions: order signs. -/
import Derived.Test.YtjjfjdejhddcnaaCInn
import Derived.Test.YtjjfjdejhddcnaaCBits7
import Derived.Test.YtjjfjdejhddcnaaP74
import Derived.Test.YtjjfjdejhddcnaaP92
namespace Go.Proofs.Ytjjfjdejhddcnaa.P
open Go.RowKit Go.Proofs.YtjjfjdejhddcnaaW.PrintWords Go.Proofs.YtjjfjdejhddcnaaW.PrintLast
set_option linter.unusedVariables false
set_option linter.unusedSimpArgs false
def cHit (n : Nat) (s : ByteArray) (S p : Nat) (t : Nat × Nat × Nat) : Bool := (decide (p ≠ t.1) && decide (p ≠ t.2.1) && decide (p ≠ t.2.2)) && (S.testBit t.1 && S.testBit t.2.1 && S.testBit t.2.2) && cInn n s p t
def cInH (n : Nat) (s : ByteArray) (S p : Nat) : Bool := (cTrips n).any (cHit n s S p)
def cH2 (n : Nat) (s : ByteArray) (S p a b c e : Nat) : Bool := (List.range' c e).any fun c => cHit n s S p (a, b, c)
def cH1 (n : Nat) (s : ByteArray) (S p a b e : Nat) : Bool := (List.range' b e).any fun b => cH2 n s S p a b (b + 1) (n - (b + 1))
def cH0 (n : Nat) (s : ByteArray) (S p a e : Nat) : Bool := (List.range' a e).any fun a => cH1 n s S p a (a + 1) (n - (a + 1))
theorem c_h0 (n : Nat) (s : ByteArray) (S p : Nat) : cH0 n s S p 0 n = cInH n s S p := by
  unfold cH0 cH1 cH2 cInH cTrips
  rw [List.range_eq_range']
  simp only [List.any_flatMap, List.any_map, Function.comp_def]
section
variable (n : Nat) (h3 : 3 ≤ n) (h7 : n ≤ 7) (s : ByteArray) (hs : s.size = (cTrips n).length) (S p : Nat) (hS : S < 1024) (hp : p < n)
include h3 h7 hs hS hp
theorem c_in2 (a b : Nat) (hab : a < b) (hb : b < n) (rest : Bool) (hr : Ev (fun k => spec_l6In.l1 k (S : Int) (p : Int) (a : Int) ((b + 1 : Nat) : Int) (n : Int) s) rest) : ∀ (e c : Nat), b < c → c + e = n →
    Ev (fun k => spec_l6In.l2 k (S : Int) (p : Int) (a : Int) (b : Int) (c : Int) (n : Int) s) (cH2 n s S p a b c e || rest) := by
  intro e
  induction e with
  | zero =>
    intro c hbc hc
    rw [show cH2 n s S p a b c 0 = false from rfl, Bool.false_or]
    refine Ev.step (fun k => ?_) hr
    simp only [spec_l6In.l2]; rw [if_neg (by omega), c_w1 b (by omega)]
  | succ e ih =>
    intro c hbc hc
    have hn := ih (c + 1) (by omega) (by omega)
    have e1 : cH2 n s S p a b c (e + 1) = (cHit n s S p (a, b, c) || cH2 n s S p a b (c + 1) e) := by unfold cH2; rw [List.range'_succ, List.any_cons]
    rw [e1]
    have hbit : ∀ q : Nat, q < 7 → spec_l6Has.f (S : Int) (q : Int) = some (S.testBit q) := fun q hq => by rw [c_has _ q (by omega), c_cBit S q (by omega) (by omega)]
    have hpre : ∀ k, spec_l6In.l2 (k + 1) (S : Int) (p : Int) (a : Int) (b : Int) (c : Int) (n : Int) s = if (decide (p ≠ a) && decide (p ≠ b) && decide (p ≠ c)) = true then (if (S.testBit a && S.testBit b && S.testBit c) = true then (spec_l5Inner.f k (n : Int) s [(p : Int), (a : Int), (b : Int), (c : Int)]).bind (fun t => if t = (p : Int) then some true else spec_l6In.l2 k (S : Int) (p : Int) (a : Int) (b : Int) ((c + 1 : Nat) : Int) (n : Int) s) else spec_l6In.l2 k (S : Int) (p : Int) (a : Int) (b : Int) ((c + 1 : Nat) : Int) (n : Int) s) else spec_l6In.l2 k (S : Int) (p : Int) (a : Int) (b : Int) ((c + 1 : Nat) : Int) (n : Int) s := by
      intro k
      simp only [spec_l6In.l2]
      rw [if_pos (by omega), c_w1 c (by omega), hbit a (by omega), hbit b (by omega), hbit c (by omega)]
      simp only [Option.bind_some]
      by_cases x1 : p = a
      · rw [if_pos (by omega), if_neg (by simp [x1])]
      · rw [if_neg (by omega)]
        by_cases x2 : p = b
        · rw [if_pos (by omega), if_neg (by simp [x2])]
        · rw [if_neg (by omega)]
          by_cases x3 : p = c
          · rw [if_pos (by omega), if_neg (by simp [x3])]
          · have hdec : (decide (p ≠ a) && decide (p ≠ b) && decide (p ≠ c)) = true := by simp [x1, x2, x3]
            rw [if_neg (by omega), if_pos hdec]
            cases S.testBit a <;> cases S.testBit b <;> cases S.testBit c <;> simp only [Bool.and_true, Bool.and_false, Bool.and_self, Bool.false_eq_true, if_true, if_false]
    by_cases hd : (decide (p ≠ a) && decide (p ≠ b) && decide (p ≠ c)) = true
    · by_cases hbs : (S.testBit a && S.testBit b && S.testBit c) = true
      · have hd' := hd
        simp only [Bool.and_eq_true, decide_eq_true_eq] at hd'
        have hD : cD4 n (p, a, b, c) := by simp only [cD4]; omega
        have eh : cHit n s S p (a, b, c) = (cIv n s (p, a, b, c) == (p : Int)) := by unfold cHit cInn; simp only [hd, hbs, Bool.true_and]
        refine Ev.step (f := fun k => (spec_l5Inner.f k (n : Int) s [(p : Int), (a : Int), (b : Int), (c : Int)]).bind (fun t => if t = (p : Int) then some true else spec_l6In.l2 k (S : Int) (p : Int) (a : Int) (b : Int) ((c + 1 : Nat) : Int) (n : Int) s)) (fun k => by rw [hpre, if_pos hd, if_pos hbs]) (Ev.bind (c_specInner n h3 h7 s hs p a b c hD) ?_)
        rw [eh]
        by_cases hv : cIv n s (p, a, b, c) = (p : Int)
        · simp only [if_pos hv]
          rw [beq_iff_eq.2 hv, Bool.true_or, Bool.true_or]; exact Ev.now _
        · simp only [if_neg hv]
          rw [beq_eq_false_iff_ne.2 hv, Bool.false_or]; exact hn
      · have eh : cHit n s S p (a, b, c) = false := by unfold cHit; simp only [hd, hbs, Bool.true_and, Bool.false_and]
        rw [eh, Bool.false_or]
        exact Ev.step (fun k => by rw [hpre, if_pos hd, if_neg hbs]) hn
    · have eh : cHit n s S p (a, b, c) = false := by unfold cHit; simp only [hd, Bool.false_and]
      rw [eh, Bool.false_or]
      exact Ev.step (fun k => by rw [hpre, if_neg hd]) hn
theorem c_in1 (a : Nat) (ha : a < n) (rest : Bool) (hr : Ev (fun k => spec_l6In.l0 k (S : Int) (p : Int) ((a + 1 : Nat) : Int) (n : Int) s) rest) : ∀ (e b : Nat), a < b → b + e = n →
    Ev (fun k => spec_l6In.l1 k (S : Int) (p : Int) (a : Int) (b : Int) (n : Int) s) (cH1 n s S p a b e || rest) := by
  intro e
  induction e with
  | zero =>
    intro b hab hb
    rw [show cH1 n s S p a b 0 = false from rfl, Bool.false_or]
    refine Ev.step (fun k => ?_) hr
    simp only [spec_l6In.l1]; rw [if_neg (by omega), c_w1 a (by omega)]
  | succ e ih =>
    intro b hab hb
    have e1 : cH1 n s S p a b (e + 1) = (cH2 n s S p a b (b + 1) (n - (b + 1)) || cH1 n s S p a (b + 1) e) := by unfold cH1; rw [List.range'_succ, List.any_cons]
    rw [e1, Bool.or_assoc]
    refine Ev.step (fun k => ?_) (c_in2 n h3 h7 s hs S p hS hp a b hab (by omega) _ (ih (b + 1) (by omega) (by omega)) (n - (b + 1)) (b + 1) (by omega) (by omega))
    simp only [spec_l6In.l1]; rw [if_pos (by omega), c_w1 b (by omega)]
theorem c_in0 : ∀ (e a : Nat), a + e = n → Ev (fun k => spec_l6In.l0 k (S : Int) (p : Int) (a : Int) (n : Int) s) (cH0 n s S p a e) := by
  intro e
  induction e with
  | zero =>
    intro a ha
    refine Ev.step (f := fun _ => some false) (fun k => ?_) (Ev.now _)
    simp only [spec_l6In.l0]; rw [if_neg (by omega)]
  | succ e ih =>
    intro a ha
    have e1 : cH0 n s S p a (e + 1) = (cH1 n s S p a (a + 1) (n - (a + 1)) || cH0 n s S p (a + 1) e) := by unfold cH0; rw [List.range'_succ, List.any_cons]
    rw [e1]
    refine Ev.step (fun k => ?_) (c_in1 n h3 h7 s hs S p hS hp a (by omega) _ (ih (a + 1) (by omega)) (n - (a + 1)) (a + 1) (by omega) (by omega))
    simp only [spec_l6In.l0]; rw [if_pos (by omega), c_w1 a (by omega)]
theorem c_specIn : Ev (fun k => spec_l6In.f k (n : Int) s (S : Int) (p : Int)) (cInH n s S p) := by
  rw [← c_h0]
  exact c_in0 n h3 h7 s hs S p hS hp n 0 (by omega)
end
def cMk (a b c : Nat) : Int := Go.bits .or .i64 (Go.bits .or .i64 (shl .i64 1 (a : Int)) (shl .i64 1 (b : Int))) (shl .i64 1 (c : Int))
theorem c_mk_all : ∀ a ∈ List.range 7, ∀ b ∈ List.range 7, ∀ c ∈ List.range 7, cMk a b c = ((2 ^ a ||| 2 ^ b ||| 2 ^ c : Nat) : Int) ∧ (2 ^ a ||| 2 ^ b ||| 2 ^ c) < 128 := by decide +kernel
theorem c_implIn_l (n : Nat) (h3 : 3 ≤ n) (h7 : n ≤ 7) (s : ByteArray) (S p : Nat) (hS : S < 1024) (hp : p < n) (hpS : S.testBit p = false) : ∀ (d m : Nat), m + d = (cTrips n).length →
    Ev (fun k => impl_chi_inHull.l0 k (cTab n s) (S : Int) (p : Int) ((cTrips n).map cT3) (((cTrips n).map cT3).length : Int) (m : Int)) (((cTrips n).drop m).any (cHit n s S p)) := by
  have hle := (c_trips_all n (c_five n h3 h7)).1
  intro d
  induction d with
  | zero =>
    intro m hm
    rw [List.drop_eq_nil_of_le (by omega)]
    refine Ev.step (f := fun _ => some false) (fun k => ?_) (Ev.now _)
    simp only [impl_chi_inHull.l0]; rw [List.length_map, if_neg (by omega)]
  | succ d ih =>
    intro m hm
    have hml : m < (cTrips n).length := by omega
    obtain ⟨g1, g2, g3⟩ := c_trips_get n h3 h7 m hml
    have hn := ih (m + 1) (by omega)
    rw [List.drop_eq_getElem_cons hml, List.any_cons]
    have hrd := c_rdT3 (cTrips n) m hml
    generalize (cTrips n)[m] = t at g1 g2 g3 hrd ⊢
    obtain ⟨a, b, c⟩ := t
    simp only at g1 g2 g3
    obtain ⟨mk1, mk2⟩ := c_mk_all a (by simp; omega) b (by simp; omega) c (by simp; omega)
    have hand : Go.bits .and .i64 (S : Int) (cMk a b c) = ((S &&& (2 ^ a ||| 2 ^ b ||| 2 ^ c) : Nat) : Int) := by
      rw [mk1]
      exact (bits_nat .i64 41 (by decide) (fun n h0 h1 => by rw [IntKind.wrap_i64]; omega) S _ (by omega) (by omega)).1
    have htest : (Go.bits .and .i64 (S : Int) (cMk a b c) = cMk a b c) ↔ (S.testBit a && S.testBit b && S.testBit c) = true := by
      rw [hand, mk1, ← c_sub3]
      exact Int.ofNat_inj
    have hpre : ∀ k, impl_chi_inHull.l0 (k + 1) (cTab n s) (S : Int) (p : Int) ((cTrips n).map cT3) (((cTrips n).map cT3).length : Int) (m : Int) = if (S.testBit a && S.testBit b && S.testBit c) = true then (impl_chi_isInside.f k (cTab n s) (p : Int) (a : Int) (b : Int) (c : Int)).bind (fun t => if t = true then some true else impl_chi_inHull.l0 k (cTab n s) (S : Int) (p : Int) ((cTrips n).map cT3) (((cTrips n).map cT3).length : Int) ((m + 1 : Nat) : Int)) else impl_chi_inHull.l0 k (cTab n s) (S : Int) (p : Int) ((cTrips n).map cT3) (((cTrips n).map cT3).length : Int) ((m + 1 : Nat) : Int) := by
      intro k
      simp only [impl_chi_inHull.l0]
      rw [hrd, List.length_map, if_pos (show (m : Int) < ((cTrips n).length : Int) by omega), if_pos (show (0 : Int) ≤ (m : Int) by omega), if_pos (show (m : Int) < ((cTrips n).length : Int) by omega)]
      rw [show (cT3 (a, b, c)).f0 = (a : Int) from rfl, show (cT3 (a, b, c)).f1 = (b : Int) from rfl, show (cT3 (a, b, c)).f2 = (c : Int) from rfl]
      rw [if_pos (show (0 : Int) ≤ (a : Int) by omega), if_pos (show (0 : Int) ≤ (b : Int) by omega), if_pos (show (0 : Int) ≤ (c : Int) by omega), c_w1 m (by omega)]
      simp only [show Go.bits .or .i64 (Go.bits .or .i64 (shl .i64 1 (a : Int)) (shl .i64 1 (b : Int))) (shl .i64 1 (c : Int)) = cMk a b c from rfl, htest]
    by_cases hb : (S.testBit a && S.testBit b && S.testBit c) = true
    · have hb' := hb
      simp only [Bool.and_eq_true] at hb'
      have pa : p ≠ a := by rintro rfl; rw [hpS] at hb'; simp at hb'
      have pb : p ≠ b := by rintro rfl; rw [hpS] at hb'; simp at hb'
      have pc : p ≠ c := by rintro rfl; rw [hpS] at hb'; simp at hb'
      have eh : cHit n s S p (a, b, c) = cInn n s p (a, b, c) := by
        unfold cHit; simp only [hb, decide_eq_true pa, decide_eq_true pb, decide_eq_true pc, Bool.true_and]
      rw [eh]
      refine Ev.step (fun k => by rw [hpre, if_pos hb]) (Ev.bind (c_implInside n h3 h7 s p a b c (by simp only [cD4]; omega)) ?_)
      cases hv : cInn n s p (a, b, c) with
      | true => simp only [if_true, Bool.true_or]; exact Ev.now _
      | false => simp only [Bool.false_eq_true, if_false, Bool.false_or]; exact hn
    · have eh : cHit n s S p (a, b, c) = false := by unfold cHit; simp only [hb, Bool.and_false, Bool.false_and]
      rw [eh, Bool.false_or]
      exact Ev.step (fun k => by rw [hpre, if_neg hb]) hn
theorem c_implIn (n : Nat) (h3 : 3 ≤ n) (h7 : n ≤ 7) (s : ByteArray) (S p : Nat) (hS : S < 1024) (hp : p < n) (hpS : S.testBit p = false) :
    Ev (fun k => impl_chi_inHull.f k (cTab n s) (S : Int) (p : Int)) (cInH n s S p) := by
  have hl := c_tab_len n s
  have h344 : (344 : Int) ≤ ((cTab n s).length : Int) := by omega
  unfold impl_chi_inHull.f
  simp only [if_pos h344, c_tab_n n h3 h7 s]
  refine Ev.bind (c_triplesOf n h3 h7) ?_
  exact c_implIn_l n h3 h7 s S p hS hp hpS (cTrips n).length 0 (by omega)
/-- A set without an element. -/
def cRem (S p : Nat) : Nat := S &&& (127 - 2 ^ p)
theorem c_rem_all : ∀ S < 128, ∀ p < 7, Go.bits .andNot .i64 ((S : Nat) : Int) (shl .i64 1 ((p : Nat) : Int)) = ((cRem S p : Nat) : Int) ∧ cRem S p < 128 ∧ ∀ j < 7, (cRem S p).testBit j = (S.testBit j && decide (j ≠ p)) := by decide +kernel
theorem c_in_rem (n : Nat) (h3 : 3 ≤ n) (h7 : n ≤ 7) (s : ByteArray) (S p : Nat) (hS : S < 128) (hp : p < n) : cInH n s (cRem S p) p = cInH n s S p := by
  have hr := (c_rem_all S hS p (by omega)).2.2
  have ht := (c_trips_all n (c_five n h3 h7)).2
  have key : ∀ t ∈ cTrips n, cHit n s (cRem S p) p t = cHit n s S p t := by
    intro t hmem
    have := ht t hmem
    unfold cHit
    rw [hr _ (by omega), hr _ (by omega), hr _ (by omega)]
    by_cases h1 : p = t.1
    · simp [h1]
    · by_cases h2 : p = t.2.1
      · simp [h2]
      · by_cases h4 : p = t.2.2
        · simp [h4]
        · simp [h1, h2, h4, Ne.symm h1, Ne.symm h2, Ne.symm h4]
  unfold cInH
  rw [Bool.eq_iff_iff, List.any_eq_true, List.any_eq_true]
  constructor
  · rintro ⟨t, h1, h2⟩; exact ⟨t, h1, by rw [← key t h1]; exact h2⟩
  · rintro ⟨t, h1, h2⟩; exact ⟨t, h1, by rw [key t h1]; exact h2⟩
/-- The extreme elements of a set. -/
def cEx (n : Nat) (s : ByteArray) (S q : Nat) : Bool := S.testBit q && !cInH n s S q
def cExt (n : Nat) (s : ByteArray) (S : Nat) : Nat := cSum (cEx n s S) 0 n
theorem c_plusX (acc q : Nat) (hq : q < 22) (ha : acc < 2 ^ q) : wrap64 ((acc : Int) + shl .i64 1 (IntKind.u64.wrap (q : Int))) = ((acc + 2 ^ q : Nat) : Int) := by
  have hp := (c_xshl_all q (by simpa using hq)).2
  rw [IntWalk.u64_in _ ⟨by omega, by omega⟩, c_xshl q hq, c_wid _ (by omega) (by omega)]
  omega
theorem c_specExt_l (n : Nat) (h3 : 3 ≤ n) (h7 : n ≤ 7) (s : ByteArray) (hs : s.size = (cTrips n).length) (S : Nat) (hS : S < 1024) : ∀ (d q acc : Nat), q + d = n → acc < 2 ^ q →
    Ev (fun k => spec_l6Extreme.l0 k (S : Int) (acc : Int) (q : Int) (n : Int) s) ((acc + cSum (cEx n s S) q d : Nat) : Int) := by
  intro d
  induction d with
  | zero =>
    intro q acc hq ha
    refine Ev.step (f := fun _ => some (acc : Int)) (fun k => ?_) (Ev.now _)
    simp only [spec_l6Extreme.l0]; rw [if_neg (by omega)]
  | succ d ih =>
    intro q acc hq ha
    rw [c_sum_succ]
    have hbit : spec_l6Has.f (S : Int) (q : Int) = some (S.testBit q) := by rw [c_has _ q (by omega), c_cBit S q (by omega) (by omega)]
    have hu : (0 : Int) ≤ IntKind.u64.wrap (q : Int) := by rw [IntWalk.u64_in _ ⟨by omega, by omega⟩]; omega
    have hpre : ∀ k, spec_l6Extreme.l0 (k + 1) (S : Int) (acc : Int) (q : Int) (n : Int) s = if S.testBit q = true then (spec_l6In.f k (n : Int) s (S : Int) (q : Int)).bind (fun t => if t = true then spec_l6Extreme.l0 k (S : Int) (acc : Int) ((q + 1 : Nat) : Int) (n : Int) s else spec_l6Extreme.l0 k (S : Int) ((acc + 2 ^ q : Nat) : Int) ((q + 1 : Nat) : Int) (n : Int) s) else spec_l6Extreme.l0 k (S : Int) (acc : Int) ((q + 1 : Nat) : Int) (n : Int) s := by
      intro k
      simp only [spec_l6Extreme.l0]
      rw [if_pos (by omega), hbit, c_w1 q (by omega), c_plusX acc q (by omega) ha]
      simp only [Option.bind_some, if_pos hu]
    have h0 := ih (q + 1) acc (by omega) (by rw [Nat.pow_succ]; omega)
    have h1 := ih (q + 1) (acc + 2 ^ q) (by omega) (by rw [Nat.pow_succ]; omega)
    by_cases hb : S.testBit q = true
    · refine Ev.step (fun k => by rw [hpre, if_pos hb]) (Ev.bind (c_specIn n h3 h7 s hs S q hS (by omega)) ?_)
      cases hi : cInH n s S q with
      | true =>
        have e : cEx n s S q = false := by unfold cEx; rw [hi]; simp
        rw [e]; simp only [if_true, Bool.false_eq_true, if_false, Nat.zero_add]; exact h0
      | false =>
        have e : cEx n s S q = true := by unfold cEx; rw [hi, hb]; rfl
        rw [e]; simp only [if_true, Bool.false_eq_true, if_false, ← Nat.add_assoc]; exact h1
    · have e : cEx n s S q = false := by unfold cEx; simp [hb]
      rw [e]; simp only [Bool.false_eq_true, if_false, Nat.zero_add]
      exact Ev.step (fun k => by rw [hpre, if_neg hb]) h0
theorem c_specExt (n : Nat) (h3 : 3 ≤ n) (h7 : n ≤ 7) (s : ByteArray) (hs : s.size = (cTrips n).length) (S : Nat) (hS : S < 1024) : Ev (fun k => spec_l6Extreme.f k (n : Int) s (S : Int)) ((cExt n s S : Nat) : Int) := by
  have h := c_specExt_l n h3 h7 s hs S hS n 0 0 (by omega) (by decide)
  rw [Nat.zero_add] at h; exact h
theorem c_implExt_l (n : Nat) (h3 : 3 ≤ n) (h7 : n ≤ 7) (s : ByteArray) (S : Nat) (hS : S < 128) : ∀ (d q acc : Nat), q + d = n → acc < 2 ^ q →
    Ev (fun k => impl_chi_extremeIn.l0 k (cTab n s) (S : Int) (acc : Int) (q : Int)) ((acc + cSum (cEx n s S) q d : Nat) : Int) := by
  have hl := c_tab_len n s
  have h344 : (344 : Int) ≤ ((cTab n s).length : Int) := by omega
  have hn0 := c_tab_n n h3 h7 s
  intro d
  induction d with
  | zero =>
    intro q acc hq ha
    refine Ev.step (f := fun _ => some (acc : Int)) (fun k => ?_) (Ev.now _)
    simp only [impl_chi_extremeIn.l0]; rw [if_pos h344, hn0, if_neg (by omega)]
  | succ d ih =>
    intro q acc hq ha
    rw [c_sum_succ]
    obtain ⟨r1, r2, r3⟩ := c_rem_all S hS q (by omega)
    have hbit : Go.bits .and .i64 (shr .i64 (S : Int) (q : Int)) 1 = 1 ↔ S.testBit q = true := by
      have := c_cBit S q (by omega) (by omega)
      unfold cBit at this
      rw [← this, beq_iff_eq]
    have hpre : ∀ k, impl_chi_extremeIn.l0 (k + 1) (cTab n s) (S : Int) (acc : Int) (q : Int) = if S.testBit q = true then (impl_chi_inHull.f k (cTab n s) ((cRem S q : Nat) : Int) (q : Int)).bind (fun t => if t = true then impl_chi_extremeIn.l0 k (cTab n s) (S : Int) (acc : Int) ((q + 1 : Nat) : Int) else impl_chi_extremeIn.l0 k (cTab n s) (S : Int) ((acc + 2 ^ q : Nat) : Int) ((q + 1 : Nat) : Int)) else impl_chi_extremeIn.l0 k (cTab n s) (S : Int) (acc : Int) ((q + 1 : Nat) : Int) := by
      intro k
      simp only [impl_chi_extremeIn.l0]
      rw [if_pos h344, hn0, if_pos (by omega), if_pos (by omega), c_w1 q (by omega), r1, c_xor acc q (by omega) ha]
      simp only [hbit]
    have h0 := ih (q + 1) acc (by omega) (by rw [Nat.pow_succ]; omega)
    have h1 := ih (q + 1) (acc + 2 ^ q) (by omega) (by rw [Nat.pow_succ]; omega)
    by_cases hb : S.testBit q = true
    · have hi0 := c_implIn n h3 h7 s (cRem S q) q (by omega) (by omega) (by rw [r3 q (by omega)]; simp)
      rw [c_in_rem n h3 h7 s S q hS (by omega)] at hi0
      refine Ev.step (fun k => by rw [hpre, if_pos hb]) (Ev.bind hi0 ?_)
      cases hi : cInH n s S q with
      | true =>
        have e : cEx n s S q = false := by unfold cEx; rw [hi]; simp
        rw [e]; simp only [if_true, Bool.false_eq_true, if_false, Nat.zero_add]; exact h0
      | false =>
        have e : cEx n s S q = true := by unfold cEx; rw [hi, hb]; rfl
        rw [e]; simp only [if_true, Bool.false_eq_true, if_false, ← Nat.add_assoc]; exact h1
    · have e : cEx n s S q = false := by unfold cEx; simp [hb]
      rw [e]; simp only [Bool.false_eq_true, if_false, Nat.zero_add]
      exact Ev.step (fun k => by rw [hpre, if_neg hb]) h0
theorem c_implExt (n : Nat) (h3 : 3 ≤ n) (h7 : n ≤ 7) (s : ByteArray) (S : Nat) (hS : S < 128) : Ev (fun k => impl_chi_extremeIn.f k (cTab n s) (S : Int)) ((cExt n s S : Nat) : Int) := by
  have h := c_implExt_l n h3 h7 s S hS n 0 0 (by omega) (by decide)
  rw [Nat.zero_add] at h; exact h
/-- Is a set convex? -/
def cConv (n : Nat) (s : ByteArray) (S : Nat) : Bool := decide (3 ≤ cPop S) && (cExt n s S == S)
theorem c_specConv (n : Nat) (h3 : 3 ≤ n) (h7 : n ≤ 7) (s : ByteArray) (hs : s.size = (cTrips n).length) (S : Nat) (hS : S < 1024) : Ev (fun k => spec_l8Convex.f k (n : Int) s (S : Int)) (cConv n s S) := by
  unfold spec_l8Convex.f cConv
  refine Ev.bind (c_bits7 S (by omega)) ?_
  by_cases h : 3 ≤ cPop S
  · simp only [if_pos (show ((cPop S : Nat) : Int) ≥ 3 by omega), decide_eq_true h, Bool.true_and]
    refine Ev.bind (c_specExt n h3 h7 s hs S hS) ?_
    rw [show (((cExt n s S : Nat) : Int) == (S : Int)) = (cExt n s S == S) by rw [Bool.eq_iff_iff]; simp only [beq_iff_eq]; omega]
    exact Ev.now _
  · simp only [if_neg (show ¬ ((cPop S : Nat) : Int) ≥ 3 by omega), decide_eq_false h, Bool.false_and]
    exact Ev.now _
theorem c_implConv (n : Nat) (h3 : 3 ≤ n) (h7 : n ≤ 7) (s : ByteArray) (S : Nat) (hS : S < 128) : Ev (fun k => impl_chi_isConvexSet.f k (cTab n s) (S : Int)) (cConv n s S) := by
  unfold impl_chi_isConvexSet.f cConv
  rw [c_u64 S (by omega), c_ones S (by omega)]
  simp only [Option.bind_some]
  by_cases h : 3 ≤ cPop S
  · simp only [if_pos (show ((cPop S : Nat) : Int) ≥ 3 by omega), decide_eq_true h, Bool.true_and]
    refine Ev.bind (c_implExt n h3 h7 s S hS) ?_
    rw [show (((cExt n s S : Nat) : Int) == (S : Int)) = (cExt n s S == S) by rw [Bool.eq_iff_iff]; simp only [beq_iff_eq]; omega]
    exact Ev.now _
  · simp only [if_neg (show ¬ ((cPop S : Nat) : Int) ≥ 3 by omega), decide_eq_false h, Bool.false_and]
    exact Ev.now _

end Go.Proofs.Ytjjfjdejhddcnaa.P
