/- The number of convex fours, the size of the hull, the size of a set: what the reference counts. Conditions: the text is at most 2^40 long. -/
import Derived.Test.YtmidcafamppkeaaCExt
import Derived.Test.YtmidcafamppkeaaP16
import Derived.Test.YtmidcafamppkeaaP75
namespace Go.Proofs.Ytmidcafamppkeaa.P
open Go.RowKit Go.Proofs.YtmidcafamppkeaaW.PrintWords Go.Proofs.YtmidcafamppkeaaW.PrintLast
set_option linter.unusedVariables false
set_option linter.unusedSimpArgs false

def qB (n : Nat) (s : ByteArray) (q : Nat × Nat × Nat × Nat) : Nat := if cIv n s q < 0 then 1 else 0
def qC (n : Nat) (s : ByteArray) (L : List (Nat × Nat × Nat × Nat)) : Nat := (L.map (qB n s)).sum
theorem q_cons (n : Nat) (s : ByteArray) (q : Nat × Nat × Nat × Nat) (L : List (Nat × Nat × Nat × Nat)) : qC n s (q :: L) = qB n s q + qC n s L := by unfold qC; rw [List.map_cons, List.sum_cons]
section
variable (n : Nat) (h3 : 3 ≤ n) (h7 : n ≤ 7) (s : ByteArray) (hs : s.size = (cTrips n).length)
include h3 h7 hs
theorem q_3 (a b c : Nat) (hab : a < b) (hbc : b < c) (hc : c < n) (rest : List (Nat × Nat × Nat × Nat)) (hr : ∀ R : List (List Int), R.length + rest.length ≤ 1000 → ∃ R', Ev (fun k => spec_QuadsOf.l2 k R (a : Int) (b : Int) ((c + 1 : Nat) : Int) (n : Int) s) R' ∧ R'.length = R.length + qC n s rest) : ∀ (e d : Nat), c < d → d + e = n → ∀ R : List (List Int), R.length + (cA3 n a b c d e ++ rest).length ≤ 1000 →
    ∃ R', Ev (fun k => spec_QuadsOf.l3 k R (a : Int) (b : Int) (c : Int) (d : Int) (n : Int) s) R' ∧ R'.length = R.length + qC n s (cA3 n a b c d e ++ rest) := by
  intro e
  induction e with
  | zero =>
    intro d hcd hd R hR
    obtain ⟨R', hE, hl⟩ := hr R (by simpa [cA3] using hR)
    refine ⟨R', Ev.step (fun k => ?_) hE, hl⟩
    simp only [spec_QuadsOf.l3]; rw [if_neg (by omega), c_w1 c (by omega)]
  | succ e ih =>
    intro d hcd hd R hR
    have e1 : cA3 n a b c d (e + 1) ++ rest = (a, b, c, d) :: (cA3 n a b c (d + 1) e ++ rest) := by unfold cA3; rw [List.range'_succ, List.map_cons, List.cons_append]
    rw [e1] at hR ⊢
    rw [List.length_cons] at hR
    rw [q_cons]
    have hI := c_specInner n h3 h7 s hs a b c d ⟨by simp only; omega, by simp only; omega, by simp only; omega, by simp only; omega, by simp only; omega, by simp only; omega, by simp only; omega, by simp only; omega, by simp only; omega, by simp only; omega⟩
    have hp : ∀ k, spec_QuadsOf.l3 (k + 1) R (a : Int) (b : Int) (c : Int) (d : Int) (n : Int) s = (spec_l5Inner.f k (n : Int) s [(a : Int), (b : Int), (c : Int), (d : Int)]).bind fun t => if t < 0 then (if R.length < 5864062014805 then spec_QuadsOf.l3 k (R ++ [[(a : Int), (b : Int), (c : Int), (d : Int)]]) (a : Int) (b : Int) (c : Int) ((d + 1 : Nat) : Int) (n : Int) s else none) else spec_QuadsOf.l3 k R (a : Int) (b : Int) (c : Int) ((d + 1 : Nat) : Int) (n : Int) s := by
      intro k
      simp only [spec_QuadsOf.l3]; rw [if_pos (by omega), c_w1 d (by omega)]; rfl
    by_cases hb : cIv n s (a, b, c, d) < 0
    · obtain ⟨R', hE, hl⟩ := ih (d + 1) (by omega) (by omega) (R ++ [[(a : Int), (b : Int), (c : Int), (d : Int)]]) (by rw [List.length_append]; simp only [List.length_cons, List.length_nil]; omega)
      refine ⟨R', Ev.step (fun k => hp k) (Ev.bind hI ?_), ?_⟩
      · simp only [if_pos hb, if_pos (show R.length < 5864062014805 by omega)]; exact hE
      · rw [hl, List.length_append, qB, if_pos hb]; simp only [List.length_cons, List.length_nil]; omega
    · obtain ⟨R', hE, hl⟩ := ih (d + 1) (by omega) (by omega) R (by omega)
      refine ⟨R', Ev.step (fun k => hp k) (Ev.bind hI ?_), ?_⟩
      · simp only [if_neg hb]; exact hE
      · rw [hl, qB, if_neg hb]; omega
theorem q_2 (a b : Nat) (hab : a < b) (hb : b < n) (rest : List (Nat × Nat × Nat × Nat)) (hr : ∀ R : List (List Int), R.length + rest.length ≤ 1000 → ∃ R', Ev (fun k => spec_QuadsOf.l1 k R (a : Int) ((b + 1 : Nat) : Int) (n : Int) s) R' ∧ R'.length = R.length + qC n s rest) : ∀ (e c : Nat), b < c → c + e = n → ∀ R : List (List Int), R.length + (cA2 n a b c e ++ rest).length ≤ 1000 →
    ∃ R', Ev (fun k => spec_QuadsOf.l2 k R (a : Int) (b : Int) (c : Int) (n : Int) s) R' ∧ R'.length = R.length + qC n s (cA2 n a b c e ++ rest) := by
  intro e
  induction e with
  | zero =>
    intro c hbc hc R hR
    obtain ⟨R', hE, hl⟩ := hr R (by simpa [cA2] using hR)
    refine ⟨R', Ev.step (fun k => ?_) hE, hl⟩
    simp only [spec_QuadsOf.l2]; rw [if_neg (by omega), c_w1 b (by omega)]
  | succ e ih =>
    intro c hbc hc R hR
    have e1 : cA2 n a b c (e + 1) ++ rest = cA3 n a b c (c + 1) (n - (c + 1)) ++ (cA2 n a b (c + 1) e ++ rest) := by unfold cA2; rw [List.range'_succ, List.flatMap_cons, List.append_assoc]
    rw [e1] at hR ⊢
    obtain ⟨R', hE, hl⟩ := q_3 n h3 h7 s hs a b c hab hbc (by omega) _ (ih (c + 1) (by omega) (by omega)) (n - (c + 1)) (c + 1) (by omega) (by omega) R hR
    refine ⟨R', Ev.step (fun k => ?_) hE, hl⟩
    simp only [spec_QuadsOf.l2]; rw [if_pos (by omega), c_w1 c (by omega)]
theorem q_1 (a : Nat) (ha : a < n) (rest : List (Nat × Nat × Nat × Nat)) (hr : ∀ R : List (List Int), R.length + rest.length ≤ 1000 → ∃ R', Ev (fun k => spec_QuadsOf.l0 k R ((a + 1 : Nat) : Int) (n : Int) s) R' ∧ R'.length = R.length + qC n s rest) : ∀ (e b : Nat), a < b → b + e = n → ∀ R : List (List Int), R.length + (cA1 n a b e ++ rest).length ≤ 1000 →
    ∃ R', Ev (fun k => spec_QuadsOf.l1 k R (a : Int) (b : Int) (n : Int) s) R' ∧ R'.length = R.length + qC n s (cA1 n a b e ++ rest) := by
  intro e
  induction e with
  | zero =>
    intro b hab hb R hR
    obtain ⟨R', hE, hl⟩ := hr R (by simpa [cA1] using hR)
    refine ⟨R', Ev.step (fun k => ?_) hE, hl⟩
    simp only [spec_QuadsOf.l1]; rw [if_neg (by omega), c_w1 a (by omega)]
  | succ e ih =>
    intro b hab hb R hR
    have e1 : cA1 n a b (e + 1) ++ rest = cA2 n a b (b + 1) (n - (b + 1)) ++ (cA1 n a (b + 1) e ++ rest) := by unfold cA1; rw [List.range'_succ, List.flatMap_cons, List.append_assoc]
    rw [e1] at hR ⊢
    obtain ⟨R', hE, hl⟩ := q_2 n h3 h7 s hs a b hab (by omega) _ (ih (b + 1) (by omega) (by omega)) (n - (b + 1)) (b + 1) (by omega) (by omega) R hR
    refine ⟨R', Ev.step (fun k => ?_) hE, hl⟩
    simp only [spec_QuadsOf.l1]; rw [if_pos (by omega), c_w1 b (by omega)]
theorem q_0 : ∀ (e a : Nat), a + e = n → ∀ R : List (List Int), R.length + (cA0 n a e).length ≤ 1000 → ∃ R', Ev (fun k => spec_QuadsOf.l0 k R (a : Int) (n : Int) s) R' ∧ R'.length = R.length + qC n s (cA0 n a e) := by
  intro e
  induction e with
  | zero =>
    intro a ha R hR
    refine ⟨R, Ev.step (f := fun _ => some R) (fun k => ?_) (Ev.now _), rfl⟩
    simp only [spec_QuadsOf.l0]; rw [if_neg (by omega)]
  | succ e ih =>
    intro a ha R hR
    have e1 : cA0 n a (e + 1) = cA1 n a (a + 1) (n - (a + 1)) ++ cA0 n (a + 1) e := by unfold cA0; rw [List.range'_succ, List.flatMap_cons]
    rw [e1] at hR ⊢
    obtain ⟨R', hE, hl⟩ := q_1 n h3 h7 s hs a (by omega) _ (ih (a + 1) (by omega)) (n - (a + 1)) (a + 1) (by omega) (by omega) R hR
    refine ⟨R', Ev.step (fun k => ?_) hE, hl⟩
    simp only [spec_QuadsOf.l0]; rw [if_pos (by omega), c_w1 a (by omega)]
end
def cQn (n : Int) (s : ByteArray) : Int := if cAcy n s = true then ((qC n.toNat s (cQuads n.toNat) : Nat) : Int) else -1
theorem c_specQuads (n : Int) (s : ByteArray) (hs : s.size ≤ 1099511627776) : Ev (fun k => spec_CountQuads.f k n s) (cQn n s) := by
  have hA := c_specAcy n s hs
  unfold spec_CountQuads.f cQn
  by_cases h : cAcy n s = true
  · rw [h] at hA
    rw [if_pos h]
    obtain ⟨m, rfl, h3, h7, hz⟩ := c_acy_open n s h
    have hq := c_quads_asc m (c_five m h3 h7)
    have hl := (c_quads_all m (c_five m h3 h7)).1
    obtain ⟨R, hE, hR⟩ := q_0 m h3 h7 s hz m 0 (by omega) [] (by rw [hq.1]; simp; omega)
    rw [hq.1, List.length_nil, Nat.zero_add] at hR
    have hQ : Ev (fun k => spec_QuadsOf.f k (m : Int) s) R := Ev.bind (f := fun k t => if t = true then spec_QuadsOf.l0 k [] 0 (m : Int) s else some []) hA (by simp only [if_true]; exact hE)
    refine Ev.bind hA ?_
    simp only [if_true]
    refine Ev.bind hQ ?_
    rw [hR, Int.toNat_natCast]; exact Ev.now _
  · rw [if_neg h]
    rw [Bool.not_eq_true] at h
    rw [h] at hA
    refine Ev.bind hA ?_
    simp only [Bool.false_eq_true, if_false]; exact Ev.now _
/-! ### the hull's size -/
theorem q_list (m : Nat) (hm : m < 128) : ∀ (d q : Nat) (L : List Int), q + d = 7 → L.length ≤ q → ∃ L', Ev (fun k => spec_l6List.l0 k (m : Int) L (q : Int)) L' ∧ L'.length = L.length + cRg (fun y => if m.testBit y = true then 1 else 0) q d := by
  intro d
  induction d with
  | zero =>
    intro q L hq hL
    refine ⟨L, Ev.step (f := fun _ => some L) (fun k => ?_) (Ev.now _), by simp [cRg]⟩
    simp only [spec_l6List.l0]; rw [if_neg (by omega)]
  | succ d ih =>
    intro q L hq hL
    rw [c_rg_succ]
    have hbit : spec_l6Has.f (m : Int) (q : Int) = some (m.testBit q) := by rw [c_has _ q (by omega), c_cBit m q (by omega) (by omega)]
    cases hb : m.testBit q with
    | true =>
      obtain ⟨L', hE, hl⟩ := ih (q + 1) (L ++ [(q : Int)]) (by omega) (by rw [List.length_append]; simp only [List.length_cons, List.length_nil]; omega)
      refine ⟨L', Ev.step (fun k => ?_) hE, by rw [hl, List.length_append]; simp only [List.length_cons, List.length_nil, if_true]; omega⟩
      simp only [spec_l6List.l0]; rw [if_pos (by omega), hbit, hb]; simp only [Option.bind_some, if_true]; rw [if_pos (by omega), c_w1 q (by omega)]
    | false =>
      obtain ⟨L', hE, hl⟩ := ih (q + 1) L (by omega) (by omega)
      refine ⟨L', Ev.step (fun k => ?_) hE, by rw [hl]; simp only [Bool.false_eq_true, if_false, Nat.zero_add]⟩
      simp only [spec_l6List.l0]; rw [if_pos (by omega), hbit, hb]; simp only [Option.bind_some, Bool.false_eq_true, if_false]; rw [c_w1 q (by omega)]
theorem q_full : ∀ n ∈ [3, 4, 5, 6, 7], wrap64 ((shl .i64 1 (IntKind.u64.wrap ((n : Nat) : Int))) - 1) = ((2 ^ n - 1 : Nat) : Int) ∧ 0 ≤ IntKind.u64.wrap ((n : Nat) : Int) ∧ 2 ^ n - 1 < 128 := by decide +kernel
def cHz (n : Int) (s : ByteArray) : Int := if cAcy n s = true then ((cPop (cExt n.toNat s (2 ^ n.toNat - 1)) : Nat) : Int) else -1
theorem q_ext_lt (n : Nat) (h7 : n ≤ 7) (s : ByteArray) (S : Nat) : cExt n s S < 128 := by
  have : ∀ (f : Nat → Bool) (d q : Nat), cSum f q d + 2 ^ q ≤ 2 ^ (q + d) := by
    intro f d
    induction d with
    | zero => intro q; simp [cSum]
    | succ d ih =>
      intro q
      rw [c_sum_succ]
      have := ih (q + 1)
      rw [show q + 1 + d = q + (d + 1) by omega] at this
      have e : 2 ^ (q + 1) = 2 ^ q + 2 ^ q := by rw [Nat.pow_succ]; omega
      have p := Nat.two_pow_pos q
      split <;> omega
  have h := this (cEx n s S) n 0
  have h2 : 2 ^ (0 + n) ≤ 2 ^ 7 := Nat.pow_le_pow_right (by decide) (by omega)
  unfold cExt; omega
theorem c_specHullSize (n : Int) (s : ByteArray) (hs : s.size ≤ 1099511627776) : Ev (fun k => spec_HullSize.f k n s) (cHz n s) := by
  have hA := c_specAcy n s hs
  unfold spec_HullSize.f cHz
  by_cases h : cAcy n s = true
  · rw [h] at hA
    rw [if_pos h]
    obtain ⟨m, rfl, h3, h7, hz⟩ := c_acy_open n s h
    obtain ⟨f1, f2, f3⟩ := q_full m (c_five m h3 h7)
    refine Ev.bind hA ?_
    simp only [if_true, if_pos f2, f1]
    have hx := q_ext_lt m h7 s (2 ^ m - 1)
    obtain ⟨L, hE, hl⟩ := q_list (cExt m s (2 ^ m - 1)) hx 7 0 [] (by omega) (by simp)
    rw [List.length_nil, Nat.zero_add, ← c_pop_sum 7 _ hx] at hl
    refine Ev.bind (c_specExt m h3 h7 s hz (2 ^ m - 1) (by omega)) (Ev.bind (a := L) hE ?_)
    rw [hl, Int.toNat_natCast]; exact Ev.now _
  · rw [if_neg h]
    rw [Bool.not_eq_true] at h
    rw [h] at hA
    refine Ev.bind hA ?_
    simp only [Bool.false_eq_true, if_false]; exact Ev.now _
theorem q_size : ∀ (x : Nat) (acc : Nat), acc + x < 33554432 → Ev (fun k => laws_size.l0 k (x : Int) (acc : Int)) ((acc + cPop x : Nat) : Int) := by
  intro x
  induction x using Nat.strongRecOn with
  | _ x ih =>
    intro acc hx
    by_cases h : x = 0
    · subst h
      rw [show acc + cPop 0 = acc by simp [cPop]]
      refine Ev.step (f := fun _ => some (acc : Int)) (fun k => ?_) (Ev.now _)
      simp only [laws_size.l0]; rw [if_neg (by omega)]
    · rw [cPop_eq x, ← Nat.add_assoc]
      refine Ev.step (fun k => ?_) (ih (x / 2) (by omega) (acc + x % 2) (by omega))
      simp only [laws_size.l0]
      have e1 : Int.tdiv (x : Int) 2 = ((x / 2 : Nat) : Int) := by rw [Int.tdiv_eq_ediv_of_nonneg (by omega)]; omega
      have e2 : Int.tmod (x : Int) 2 = ((x % 2 : Nat) : Int) := by rw [Int.tmod_eq_emod_of_nonneg (by omega)]; omega
      rw [if_pos (by omega), e1, e2, c_wid _ (by omega) (by omega), c_wid _ (by omega) (by omega)]
      rfl

end Go.Proofs.Ytmidcafamppkeaa.P
