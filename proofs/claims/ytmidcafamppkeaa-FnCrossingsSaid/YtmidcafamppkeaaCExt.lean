/- Triangles and the elements inside of them, extreme elements: what the reference computes. Conditions: order signs. -/
import Derived.Test.YtmidcafamppkeaaCInnS
import Derived.Test.YtmidcafamppkeaaP75
namespace Go.Proofs.Ytmidcafamppkeaa.P
open Go.RowKit Go.Proofs.YtmidcafamppkeaaW.PrintWords Go.Proofs.YtmidcafamppkeaaW.PrintLast
set_option linter.unusedVariables false
set_option linter.unusedSimpArgs false
def cHit (n : Nat) (s : ByteArray) (S p : Nat) (t : Nat × Nat × Nat) : Bool := (decide (p ≠ t.1) && decide (p ≠ t.2.1) && decide (p ≠ t.2.2)) && (S.testBit t.1 && S.testBit t.2.1 && S.testBit t.2.2) && cInn n s p t
def cInH (n : Nat) (s : ByteArray) (S p : Nat) : Bool := (cTrips n).any (cHit n s S p)
def cH2 (n : Nat) (s : ByteArray) (S p a b c e : Nat) : Bool := (List.range' c e).any fun c => cHit n s S p (a, b, c)
def cH1 (n : Nat) (s : ByteArray) (S p a b e : Nat) : Bool := (List.range' b e).any fun b => cH2 n s S p a b (b + 1) (n - (b + 1))
def cH0 (n : Nat) (s : ByteArray) (S p a e : Nat) : Bool := (List.range' a e).any fun a => cH1 n s S p a (a + 1) (n - (a + 1))
theorem c_h0 (n : Nat) (s : ByteArray) (S p : Nat) : cH0 n s S p 0 n = cInH n s S p := by
  unfold cH0 cH1 cH2 cInH cTrips
  rw [List.range_eq_range']
  simp only [List.any_flatMap, List.any_map, Function.comp_def]
section
variable (n : Nat) (h3 : 3 ≤ n) (h7 : n ≤ 7) (s : ByteArray) (hs : s.size = (cTrips n).length) (S p : Nat) (hS : S < 1024) (hp : p < n)
include h3 h7 hs hS hp
theorem c_in2 (a b : Nat) (hab : a < b) (hb : b < n) (rest : Bool) (hr : Ev (fun k => spec_l6In.l1 k (S : Int) (p : Int) (a : Int) ((b + 1 : Nat) : Int) (n : Int) s) rest) : ∀ (e c : Nat), b < c → c + e = n →
    Ev (fun k => spec_l6In.l2 k (S : Int) (p : Int) (a : Int) (b : Int) (c : Int) (n : Int) s) (cH2 n s S p a b c e || rest) := by
  intro e
  induction e with
  | zero =>
    intro c hbc hc
    rw [show cH2 n s S p a b c 0 = false from rfl, Bool.false_or]
    refine Ev.step (fun k => ?_) hr
    simp only [spec_l6In.l2]; rw [if_neg (by omega), c_w1 b (by omega)]
  | succ e ih =>
    intro c hbc hc
    have hn := ih (c + 1) (by omega) (by omega)
    have e1 : cH2 n s S p a b c (e + 1) = (cHit n s S p (a, b, c) || cH2 n s S p a b (c + 1) e) := by unfold cH2; rw [List.range'_succ, List.any_cons]
    rw [e1]
    have hbit : ∀ q : Nat, q < 7 → spec_l6Has.f (S : Int) (q : Int) = some (S.testBit q) := fun q hq => by rw [c_has _ q (by omega), c_cBit S q (by omega) (by omega)]
    have hpre : ∀ k, spec_l6In.l2 (k + 1) (S : Int) (p : Int) (a : Int) (b : Int) (c : Int) (n : Int) s = if (decide (p ≠ a) && decide (p ≠ b) && decide (p ≠ c)) = true then (if (S.testBit a && S.testBit b && S.testBit c) = true then (spec_l5Inner.f k (n : Int) s [(p : Int), (a : Int), (b : Int), (c : Int)]).bind (fun t => if t = (p : Int) then some true else spec_l6In.l2 k (S : Int) (p : Int) (a : Int) (b : Int) ((c + 1 : Nat) : Int) (n : Int) s) else spec_l6In.l2 k (S : Int) (p : Int) (a : Int) (b : Int) ((c + 1 : Nat) : Int) (n : Int) s) else spec_l6In.l2 k (S : Int) (p : Int) (a : Int) (b : Int) ((c + 1 : Nat) : Int) (n : Int) s := by
      intro k
      simp only [spec_l6In.l2]
      rw [if_pos (by omega), c_w1 c (by omega), hbit a (by omega), hbit b (by omega), hbit c (by omega)]
      simp only [Option.bind_some]
      by_cases x1 : p = a
      · rw [if_pos (by omega), if_neg (by simp [x1])]
      · rw [if_neg (by omega)]
        by_cases x2 : p = b
        · rw [if_pos (by omega), if_neg (by simp [x2])]
        · rw [if_neg (by omega)]
          by_cases x3 : p = c
          · rw [if_pos (by omega), if_neg (by simp [x3])]
          · have hdec : (decide (p ≠ a) && decide (p ≠ b) && decide (p ≠ c)) = true := by simp [x1, x2, x3]
            rw [if_neg (by omega), if_pos hdec]
            cases S.testBit a <;> cases S.testBit b <;> cases S.testBit c <;> simp only [Bool.and_true, Bool.and_false, Bool.and_self, Bool.false_eq_true, if_true, if_false]
    by_cases hd : (decide (p ≠ a) && decide (p ≠ b) && decide (p ≠ c)) = true
    · by_cases hbs : (S.testBit a && S.testBit b && S.testBit c) = true
      · have hd' := hd
        simp only [Bool.and_eq_true, decide_eq_true_eq] at hd'
        have hD : cD4 n (p, a, b, c) := by simp only [cD4]; omega
        have eh : cHit n s S p (a, b, c) = (cIv n s (p, a, b, c) == (p : Int)) := by unfold cHit cInn; simp only [hd, hbs, Bool.true_and]
        refine Ev.step (f := fun k => (spec_l5Inner.f k (n : Int) s [(p : Int), (a : Int), (b : Int), (c : Int)]).bind (fun t => if t = (p : Int) then some true else spec_l6In.l2 k (S : Int) (p : Int) (a : Int) (b : Int) ((c + 1 : Nat) : Int) (n : Int) s)) (fun k => by rw [hpre, if_pos hd, if_pos hbs]) (Ev.bind (c_specInner n h3 h7 s hs p a b c hD) ?_)
        rw [eh]
        by_cases hv : cIv n s (p, a, b, c) = (p : Int)
        · simp only [if_pos hv]
          rw [beq_iff_eq.2 hv, Bool.true_or, Bool.true_or]; exact Ev.now _
        · simp only [if_neg hv]
          rw [beq_eq_false_iff_ne.2 hv, Bool.false_or]; exact hn
      · have eh : cHit n s S p (a, b, c) = false := by unfold cHit; simp only [hd, hbs, Bool.true_and, Bool.false_and]
        rw [eh, Bool.false_or]
        exact Ev.step (fun k => by rw [hpre, if_pos hd, if_neg hbs]) hn
    · have eh : cHit n s S p (a, b, c) = false := by unfold cHit; simp only [hd, Bool.false_and]
      rw [eh, Bool.false_or]
      exact Ev.step (fun k => by rw [hpre, if_neg hd]) hn
theorem c_in1 (a : Nat) (ha : a < n) (rest : Bool) (hr : Ev (fun k => spec_l6In.l0 k (S : Int) (p : Int) ((a + 1 : Nat) : Int) (n : Int) s) rest) : ∀ (e b : Nat), a < b → b + e = n →
    Ev (fun k => spec_l6In.l1 k (S : Int) (p : Int) (a : Int) (b : Int) (n : Int) s) (cH1 n s S p a b e || rest) := by
  intro e
  induction e with
  | zero =>
    intro b hab hb
    rw [show cH1 n s S p a b 0 = false from rfl, Bool.false_or]
    refine Ev.step (fun k => ?_) hr
    simp only [spec_l6In.l1]; rw [if_neg (by omega), c_w1 a (by omega)]
  | succ e ih =>
    intro b hab hb
    have e1 : cH1 n s S p a b (e + 1) = (cH2 n s S p a b (b + 1) (n - (b + 1)) || cH1 n s S p a (b + 1) e) := by unfold cH1; rw [List.range'_succ, List.any_cons]
    rw [e1, Bool.or_assoc]
    refine Ev.step (fun k => ?_) (c_in2 n h3 h7 s hs S p hS hp a b hab (by omega) _ (ih (b + 1) (by omega) (by omega)) (n - (b + 1)) (b + 1) (by omega) (by omega))
    simp only [spec_l6In.l1]; rw [if_pos (by omega), c_w1 b (by omega)]
theorem c_in0 : ∀ (e a : Nat), a + e = n → Ev (fun k => spec_l6In.l0 k (S : Int) (p : Int) (a : Int) (n : Int) s) (cH0 n s S p a e) := by
  intro e
  induction e with
  | zero =>
    intro a ha
    refine Ev.step (f := fun _ => some false) (fun k => ?_) (Ev.now _)
    simp only [spec_l6In.l0]; rw [if_neg (by omega)]
  | succ e ih =>
    intro a ha
    have e1 : cH0 n s S p a (e + 1) = (cH1 n s S p a (a + 1) (n - (a + 1)) || cH0 n s S p (a + 1) e) := by unfold cH0; rw [List.range'_succ, List.any_cons]
    rw [e1]
    refine Ev.step (fun k => ?_) (c_in1 n h3 h7 s hs S p hS hp a (by omega) _ (ih (a + 1) (by omega)) (n - (a + 1)) (a + 1) (by omega) (by omega))
    simp only [spec_l6In.l0]; rw [if_pos (by omega), c_w1 a (by omega)]
theorem c_specIn : Ev (fun k => spec_l6In.f k (n : Int) s (S : Int) (p : Int)) (cInH n s S p) := by
  rw [← c_h0]
  exact c_in0 n h3 h7 s hs S p hS hp n 0 (by omega)
end
/-- The extreme elements of a set. -/
def cEx (n : Nat) (s : ByteArray) (S q : Nat) : Bool := S.testBit q && !cInH n s S q
def cExt (n : Nat) (s : ByteArray) (S : Nat) : Nat := cSum (cEx n s S) 0 n
theorem c_plusX (acc q : Nat) (hq : q < 22) (ha : acc < 2 ^ q) : wrap64 ((acc : Int) + shl .i64 1 (IntKind.u64.wrap (q : Int))) = ((acc + 2 ^ q : Nat) : Int) := by
  have hp := (c_xshl_all q (by simpa using hq)).2
  rw [IntWalk.u64_in _ ⟨by omega, by omega⟩, c_xshl q hq, c_wid _ (by omega) (by omega)]
  omega
theorem c_specExt_l (n : Nat) (h3 : 3 ≤ n) (h7 : n ≤ 7) (s : ByteArray) (hs : s.size = (cTrips n).length) (S : Nat) (hS : S < 1024) : ∀ (d q acc : Nat), q + d = n → acc < 2 ^ q →
    Ev (fun k => spec_l6Extreme.l0 k (S : Int) (acc : Int) (q : Int) (n : Int) s) ((acc + cSum (cEx n s S) q d : Nat) : Int) := by
  intro d
  induction d with
  | zero =>
    intro q acc hq ha
    refine Ev.step (f := fun _ => some (acc : Int)) (fun k => ?_) (Ev.now _)
    simp only [spec_l6Extreme.l0]; rw [if_neg (by omega)]
  | succ d ih =>
    intro q acc hq ha
    rw [c_sum_succ]
    have hbit : spec_l6Has.f (S : Int) (q : Int) = some (S.testBit q) := by rw [c_has _ q (by omega), c_cBit S q (by omega) (by omega)]
    have hu : (0 : Int) ≤ IntKind.u64.wrap (q : Int) := by rw [IntWalk.u64_in _ ⟨by omega, by omega⟩]; omega
    have hpre : ∀ k, spec_l6Extreme.l0 (k + 1) (S : Int) (acc : Int) (q : Int) (n : Int) s = if S.testBit q = true then (spec_l6In.f k (n : Int) s (S : Int) (q : Int)).bind (fun t => if t = true then spec_l6Extreme.l0 k (S : Int) (acc : Int) ((q + 1 : Nat) : Int) (n : Int) s else spec_l6Extreme.l0 k (S : Int) ((acc + 2 ^ q : Nat) : Int) ((q + 1 : Nat) : Int) (n : Int) s) else spec_l6Extreme.l0 k (S : Int) (acc : Int) ((q + 1 : Nat) : Int) (n : Int) s := by
      intro k
      simp only [spec_l6Extreme.l0]
      rw [if_pos (by omega), hbit, c_w1 q (by omega), c_plusX acc q (by omega) ha]
      simp only [Option.bind_some, if_pos hu]
    have h0 := ih (q + 1) acc (by omega) (by rw [Nat.pow_succ]; omega)
    have h1 := ih (q + 1) (acc + 2 ^ q) (by omega) (by rw [Nat.pow_succ]; omega)
    by_cases hb : S.testBit q = true
    · refine Ev.step (fun k => by rw [hpre, if_pos hb]) (Ev.bind (c_specIn n h3 h7 s hs S q hS (by omega)) ?_)
      cases hi : cInH n s S q with
      | true =>
        have e : cEx n s S q = false := by unfold cEx; rw [hi]; simp
        rw [e]; simp only [if_true, Bool.false_eq_true, if_false, Nat.zero_add]; exact h0
      | false =>
        have e : cEx n s S q = true := by unfold cEx; rw [hi, hb]; rfl
        rw [e]; simp only [if_true, Bool.false_eq_true, if_false, ← Nat.add_assoc]; exact h1
    · have e : cEx n s S q = false := by unfold cEx; simp [hb]
      rw [e]; simp only [Bool.false_eq_true, if_false, Nat.zero_add]
      exact Ev.step (fun k => by rw [hpre, if_neg hb]) h0
theorem c_specExt (n : Nat) (h3 : 3 ≤ n) (h7 : n ≤ 7) (s : ByteArray) (hs : s.size = (cTrips n).length) (S : Nat) (hS : S < 1024) : Ev (fun k => spec_l6Extreme.f k (n : Int) s (S : Int)) ((cExt n s S : Nat) : Int) := by
  have h := c_specExt_l n h3 h7 s hs S hS n 0 0 (by omega) (by decide)
  rw [Nat.zero_add] at h; exact h

end Go.Proofs.Ytmidcafamppkeaa.P
