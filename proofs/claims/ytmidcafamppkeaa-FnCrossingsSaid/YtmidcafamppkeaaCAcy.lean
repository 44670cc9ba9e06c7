/- Circuits and acyclic signs: the reference and the program tell the same. Conditions: the text is at most 2^40 long. -/
import Derived.Test.YtmidcafamppkeaaCBreak
import Derived.Test.YtmidcafamppkeaaP72
import Derived.Test.YtmidcafamppkeaaP84
namespace Go.Proofs.Ytmidcafamppkeaa.P
open Go.RowKit Go.Proofs.YtmidcafamppkeaaW.PrintWords Go.Proofs.YtmidcafamppkeaaW.PrintLast
set_option linter.unusedVariables false

def cB (t : Int) : UInt8 := if t > 0 then 43 else 45
def cCirc (x y z u : Int) : ByteArray := ⟨#[43, cB (wrap64 (wrap64 (-x) * y)), cB (wrap64 (x * z)), cB (wrap64 (wrap64 (-x) * u))]⟩
/-- The circuit of four different elements. -/
def cCq (n : Nat) (s : ByteArray) (q : Nat × Nat × Nat × Nat) : ByteArray := cCirc (cAt n s q.2.1 q.2.2.1 q.2.2.2) (cAt n s q.1 q.2.2.1 q.2.2.2) (cAt n s q.1 q.2.1 q.2.2.2) (cAt n s q.1 q.2.1 q.2.2.1)
def cD4 (n : Nat) (q : Nat × Nat × Nat × Nat) : Prop := q.1 < n ∧ q.2.1 < n ∧ q.2.2.1 < n ∧ q.2.2.2 < n ∧ q.1 ≠ q.2.1 ∧ q.1 ≠ q.2.2.1 ∧ q.1 ≠ q.2.2.2 ∧ q.2.1 ≠ q.2.2.1 ∧ q.2.1 ≠ q.2.2.2 ∧ q.2.2.1 ≠ q.2.2.2
theorem c_byte (v : Int) : spec_l3Byte.f v = some ⟨#[cB v]⟩ := by
  unfold spec_l3Byte.f cB
  split <;> rfl
theorem c_four (p q r : UInt8) : ((((⟨#[43]⟩ : ByteArray) ++ ⟨#[p]⟩) ++ ⟨#[q]⟩) ++ ⟨#[r]⟩) = ⟨#[43, p, q, r]⟩ := by
  apply ByteArray.ext
  simp
theorem c_sz1 (p : UInt8) : (1 + (⟨#[p]⟩ : ByteArray).size ≤ 9223372036854775807) = True := eq_true (show 1 + 1 ≤ 9223372036854775807 by decide)
theorem c_sz2 (p q : UInt8) : (((⟨#[43]⟩ : ByteArray) ++ ⟨#[p]⟩).size + (⟨#[q]⟩ : ByteArray).size ≤ 9223372036854775807) = True := eq_true (by rw [ByteArray.size_append]; exact (show 1 + 1 + 1 ≤ 9223372036854775807 by decide))
theorem c_sz3 (p q r : UInt8) : ((((⟨#[43]⟩ : ByteArray) ++ ⟨#[p]⟩) ++ ⟨#[q]⟩).size + (⟨#[r]⟩ : ByteArray).size ≤ 9223372036854775807) = True := eq_true (by rw [ByteArray.size_append, ByteArray.size_append]; exact (show 1 + 1 + 1 + 1 ≤ 9223372036854775807 by decide))
theorem c_specCirc (n : Nat) (h3 : 3 ≤ n) (h7 : n ≤ 7) (s : ByteArray) (hs : s.size = (cTrips n).length) (q : Nat × Nat × Nat × Nat) (h : cD4 n q) :
    Ev (fun k => spec_l4Circuit.f k (n : Int) s (q.1 : Int) (q.2.1 : Int) (q.2.2.1 : Int) (q.2.2.2 : Int)) (cCq n s q) := by
  obtain ⟨a, b, c, d⟩ := q
  simp only [cD4] at h
  have hD := fun x y z hx => c_specAt n h3 h7 s hs x y z hx
  unfold spec_l4Circuit.f cCq cCirc
  refine Ev.bind (hD b c d ⟨by omega, by omega, by omega, by omega, by omega, by omega⟩) (Ev.bind (hD a c d ⟨by omega, by omega, by omega, by omega, by omega, by omega⟩) ?_)
  simp only [c_byte, Option.bind_some, c_sz1, if_true]
  refine Ev.bind (hD a b d ⟨by omega, by omega, by omega, by omega, by omega, by omega⟩) ?_
  simp only [c_sz2, if_true]
  refine Ev.bind (hD a b c ⟨by omega, by omega, by omega, by omega, by omega, by omega⟩) ?_
  simp only [c_sz3, if_true, c_four]
  exact Ev.now _
theorem c_circ_all : ∀ x ∈ [(1 : Int), -1], ∀ y ∈ [(1 : Int), -1], ∀ z ∈ [(1 : Int), -1], ∀ u ∈ [(1 : Int), -1], impl_chi_circuit.l0 12 [] [x, wrap64 (-y), z, wrap64 (-u)] 4 0 = some (cCirc x y z u) := by decide +kernel
theorem c_pm_mem (n : Nat) (s : ByteArray) (a b c : Nat) : cAt n s a b c ∈ [(1 : Int), -1] := by
  rcases c_at_pm n s a b c with h | h <;> simp [h]
theorem c_implCirc (n : Nat) (h3 : 3 ≤ n) (h7 : n ≤ 7) (s : ByteArray) (q : Nat × Nat × Nat × Nat) (h : cD4 n q) :
    Ev (fun k => impl_chi_circuit.f k (cTab n s) (q.1 : Int) (q.2.1 : Int) (q.2.2.1 : Int) (q.2.2.2 : Int)) (cCq n s q) := by
  obtain ⟨a, b, c, d⟩ := q
  simp only [cD4] at h
  have hD := fun x y z hx => c_tab_at n h3 h7 s x y z hx
  have hl := c_tab_len n s
  refine Ev.of (fun k => impl_chi_circuit.mono _ _ _ _ _ k) (k := 12) ?_
  unfold impl_chi_circuit.f cCq
  simp only
  rw [if_pos (by omega), if_pos (by omega), if_pos (by omega), if_pos (by omega), if_pos (by omega), if_pos (by omega), if_pos (by omega), if_pos (by omega), if_pos (by omega)]
  rw [hD b c d ⟨by omega, by omega, by omega, by omega, by omega, by omega⟩, hD a c d ⟨by omega, by omega, by omega, by omega, by omega, by omega⟩, hD a b d ⟨by omega, by omega, by omega, by omega, by omega, by omega⟩, hD a b c ⟨by omega, by omega, by omega, by omega, by omega, by omega⟩]
  exact c_circ_all _ (c_pm_mem n s b c d) _ (c_pm_mem n s a c d) _ (c_pm_mem n s a b d) _ (c_pm_mem n s a b c)

/-! ### acyclic -/
def cPlus (n : Nat) (s : ByteArray) (q : Nat × Nat × Nat × Nat) : Bool := decide ((cCq n s q).toList = ([43, 43, 43, 43] : List UInt8))
def cNo (n : Nat) (s : ByteArray) (L : List (Nat × Nat × Nat × Nat)) : Bool := !(L.any (cPlus n s))
theorem c_no_cons (n : Nat) (s : ByteArray) (q : Nat × Nat × Nat × Nat) (L : List (Nat × Nat × Nat × Nat)) : cNo n s (q :: L) = if cPlus n s q = true then false else cNo n s L := by
  unfold cNo
  rw [List.any_cons]
  cases cPlus n s q <;> rfl
def cA3 (n a b c d e : Nat) : List (Nat × Nat × Nat × Nat) := (List.range' d e).map fun d => (a, b, c, d)
def cA2 (n a b c e : Nat) : List (Nat × Nat × Nat × Nat) := (List.range' c e).flatMap fun c => cA3 n a b c (c + 1) (n - (c + 1))
def cA1 (n a b e : Nat) : List (Nat × Nat × Nat × Nat) := (List.range' b e).flatMap fun b => cA2 n a b (b + 1) (n - (b + 1))
def cA0 (n a e : Nat) : List (Nat × Nat × Nat × Nat) := (List.range' a e).flatMap fun a => cA1 n a (a + 1) (n - (a + 1))
section
variable (n : Nat) (h3 : 3 ≤ n) (h7 : n ≤ 7) (s : ByteArray) (hs : s.size = (cTrips n).length)
include h3 h7 hs
theorem c_ac3 (a b c : Nat) (hab : a < b) (hbc : b < c) (hc : c < n) (rest) (hr : Ev (fun q => spec_l4Acyclic.l2 q (a : Int) (b : Int) ((c + 1 : Nat) : Int) (n : Int) s) (cNo n s rest)) : ∀ (e d : Nat), c < d → (d + e = n ∨ n < d ∧ e = 0) →
    Ev (fun q => spec_l4Acyclic.l3 q (a : Int) (b : Int) (c : Int) (d : Int) (n : Int) s) (cNo n s (cA3 n a b c d e ++ rest)) := by
  intro e
  induction e with
  | zero =>
    intro d hcd hd
    refine Ev.step (fun q => ?_) hr
    simp only [spec_l4Acyclic.l3]; rw [if_neg (by omega), c_w1 c (by omega)]
  | succ e ih =>
    intro d hcd hd
    unfold cA3
    rw [List.range'_succ, List.map_cons, List.cons_append, c_no_cons]
    refine Ev.step (f := fun q => (spec_l4Circuit.f q (n : Int) s (a : Int) (b : Int) (c : Int) (d : Int)).bind fun t => if t.toList = ([43, 43, 43, 43] : List UInt8) then some false else spec_l4Acyclic.l3 q (a : Int) (b : Int) (c : Int) ((d + 1 : Nat) : Int) (n : Int) s) (fun q => ?_) ?_
    · simp only [spec_l4Acyclic.l3]; rw [if_pos (by omega), c_w1 d (by omega)]
    · refine Ev.bind (c_specCirc n h3 h7 s hs (a, b, c, d) ⟨by simp only; omega, by simp only; omega, by simp only; omega, by simp only; omega, by simp only; omega, by simp only; omega, by simp only; omega, by simp only; omega, by simp only; omega, by simp only; omega⟩) ?_
      by_cases hb : (cCq n s (a, b, c, d)).toList = ([43, 43, 43, 43] : List UInt8)
      · rw [if_pos (show cPlus n s (a, b, c, d) = true from decide_eq_true hb)]; simp only [if_pos hb]; exact Ev.now _
      · rw [if_neg (show ¬ cPlus n s (a, b, c, d) = true by unfold cPlus; rw [decide_eq_false hb]; simp)]; simp only [if_neg hb]; exact ih (d + 1) (by omega) (by omega)
theorem c_ac2 (a b : Nat) (hab : a < b) (hb : b < n) (rest) (hr : Ev (fun q => spec_l4Acyclic.l1 q (a : Int) ((b + 1 : Nat) : Int) (n : Int) s) (cNo n s rest)) : ∀ (e c : Nat), b < c → c + e = n →
    Ev (fun q => spec_l4Acyclic.l2 q (a : Int) (b : Int) (c : Int) (n : Int) s) (cNo n s (cA2 n a b c e ++ rest)) := by
  intro e
  induction e with
  | zero =>
    intro c hbc hc
    refine Ev.step (fun q => ?_) hr
    simp only [spec_l4Acyclic.l2]; rw [if_neg (by omega), c_w1 b (by omega)]
  | succ e ih =>
    intro c hbc hc
    unfold cA2
    rw [List.range'_succ, List.flatMap_cons, List.append_assoc]
    refine Ev.step (fun q => ?_) (c_ac3 n h3 h7 s hs a b c hab hbc (by omega) _ (ih (c + 1) (by omega) (by omega)) (n - (c + 1)) (c + 1) (by omega) (by omega))
    simp only [spec_l4Acyclic.l2]; rw [if_pos (by omega), c_w1 c (by omega)]
theorem c_ac1 (a : Nat) (ha : a < n) (rest) (hr : Ev (fun q => spec_l4Acyclic.l0 q ((a + 1 : Nat) : Int) (n : Int) s) (cNo n s rest)) : ∀ (e b : Nat), a < b → b + e = n →
    Ev (fun q => spec_l4Acyclic.l1 q (a : Int) (b : Int) (n : Int) s) (cNo n s (cA1 n a b e ++ rest)) := by
  intro e
  induction e with
  | zero =>
    intro b hab hb
    refine Ev.step (fun q => ?_) hr
    simp only [spec_l4Acyclic.l1]; rw [if_neg (by omega), c_w1 a (by omega)]
  | succ e ih =>
    intro b hab hb
    unfold cA1
    rw [List.range'_succ, List.flatMap_cons, List.append_assoc]
    refine Ev.step (fun q => ?_) (c_ac2 n h3 h7 s hs a b hab (by omega) _ (ih (b + 1) (by omega) (by omega)) (n - (b + 1)) (b + 1) (by omega) (by omega))
    simp only [spec_l4Acyclic.l1]; rw [if_pos (by omega), c_w1 b (by omega)]
theorem c_ac0 : ∀ (e a : Nat), a + e = n → Ev (fun q => spec_l4Acyclic.l0 q (a : Int) (n : Int) s) (cNo n s (cA0 n a e)) := by
  intro e
  induction e with
  | zero =>
    intro a ha
    refine Ev.step (f := fun _ => some true) (fun q => ?_) (Ev.now _)
    simp only [spec_l4Acyclic.l0]; rw [if_neg (by omega)]
  | succ e ih =>
    intro a ha
    unfold cA0
    rw [List.range'_succ, List.flatMap_cons]
    refine Ev.step (fun q => ?_) (c_ac1 n h3 h7 s hs a (by omega) _ (ih (a + 1) (by omega)) (n - (a + 1)) (a + 1) (by omega) (by omega))
    simp only [spec_l4Acyclic.l0]; rw [if_pos (by omega), c_w1 a (by omega)]
end
theorem c_quads_asc : ∀ n ∈ [3, 4, 5, 6, 7], cA0 n 0 n = cQuads n ∧ ∀ q ∈ cQuads n, q.1 < q.2.1 ∧ q.2.1 < q.2.2.1 ∧ q.2.2.1 < q.2.2.2 ∧ q.2.2.2 < n := by decide +kernel
theorem c_iac (n : Nat) (h3 : 3 ≤ n) (h7 : n ≤ 7) (s : ByteArray) (Q : List (Nat × Nat × Nat × Nat)) (hQ : Q.length ≤ 35) (hD : ∀ q ∈ Q, cD4 n q) : ∀ (d m : Nat), m + d = Q.length →
    Ev (fun k => impl_chi_isAcyclic.l0 k (cTab n s) (Q.map cT4) ((Q.map cT4).length : Int) (m : Int)) (cNo n s (Q.drop m)) := by
  intro d
  induction d with
  | zero =>
    intro m hm
    rw [List.drop_eq_nil_of_le (by omega)]
    refine Ev.step (f := fun _ => some true) (fun q => ?_) (Ev.now _)
    simp only [impl_chi_isAcyclic.l0]; rw [List.length_map, if_neg (by omega)]
  | succ d ih =>
    intro m hm
    have hmq : m < Q.length := by omega
    rw [List.drop_eq_getElem_cons hmq, c_no_cons]
    refine Ev.step (f := fun k => (impl_chi_circuit.f k (cTab n s) ((Q[m].1 : Nat) : Int) ((Q[m].2.1 : Nat) : Int) ((Q[m].2.2.1 : Nat) : Int) ((Q[m].2.2.2 : Nat) : Int)).bind fun t => if t.toList = ([43, 43, 43, 43] : List UInt8) then some false else impl_chi_isAcyclic.l0 k (cTab n s) (Q.map cT4) ((Q.map cT4).length : Int) ((m + 1 : Nat) : Int)) (fun k => ?_) ?_
    · simp only [impl_chi_isAcyclic.l0]
      rw [c_rdT4 Q m hmq, List.length_map, if_pos (by omega), if_pos (by omega), if_pos (by omega), c_w1 m (by omega)]
      rfl
    · refine Ev.bind (c_implCirc n h3 h7 s Q[m] (hD _ (List.getElem_mem _))) ?_
      by_cases hb : (cCq n s Q[m]).toList = ([43, 43, 43, 43] : List UInt8)
      · rw [if_pos (show cPlus n s Q[m] = true from decide_eq_true hb)]; simp only [if_pos hb]; exact Ev.now _
      · rw [if_neg (show ¬ cPlus n s Q[m] = true by unfold cPlus; rw [decide_eq_false hb]; simp)]; simp only [if_neg hb]; exact ih (m + 1) (by omega)
/-- Are they acyclic? -/
def cAcy (n : Int) (s : ByteArray) : Bool := cMat n s && cNo n.toNat s (cQuads n.toNat)
theorem c_mat_open (n : Int) (s : ByteArray) (h : cMat n s = true) : cSigns n s = true := by
  unfold cMat at h
  rw [Bool.and_eq_true] at h
  exact h.1
theorem c_specAcy (n : Int) (s : ByteArray) (hs : s.size ≤ 1099511627776) : Ev (fun k => spec_IsAcyclic.f k n s) (cAcy n s) := by
  unfold spec_IsAcyclic.f cAcy
  refine Ev.bind (c_specMat n s hs) ?_
  by_cases h : cMat n s = true
  · rw [h, Bool.true_and]
    simp only [if_true]
    obtain ⟨m, rfl, h3, h7, hz⟩ := c_signs_open n s (c_mat_open n s h)
    have hf := c_ac0 m h3 h7 s hz m 0 (by omega)
    rw [(c_quads_asc m (c_five m h3 h7)).1] at hf
    exact Ev.bind (a := cNo m s (cQuads m)) hf (Ev.now _)
  · rw [Bool.not_eq_true] at h
    rw [h, Bool.false_and]
    simp only [Bool.false_eq_true, if_false]
    exact Ev.now _
theorem c_implAcy (n : Int) (s : ByteArray) (hs : s.size ≤ 1099511627776) : Ev (fun k => impl_IsAcyclic.f k n s) (cAcy n s) := by
  unfold impl_IsAcyclic.f cAcy
  refine Ev.bind (c_implMat n s hs) ?_
  by_cases h : cMat n s = true
  · rw [h, Bool.true_and]
    simp only [if_true]
    obtain ⟨m, rfl, h3, h7, hz⟩ := c_signs_open n s (c_mat_open n s h)
    refine Ev.bind (c_tableOf m h3 h7 s hz) ?_
    have hl := c_tab_len m s
    have hA : Ev (fun k => impl_chi_isAcyclic.f k (cTab m s)) (cNo m s (cQuads m)) := by
      unfold impl_chi_isAcyclic.f
      have h344 : (344 : Int) ≤ ((cTab m s).length : Int) := by omega
      simp only [c_tab_n m h3 h7 s, if_pos h344]
      exact Ev.bind (c_quadsOf m h3 h7) (c_iac m h3 h7 s (cQuads m) (c_quads_all m (c_five m h3 h7)).1 (fun q hq => by have := (c_quads_asc m (c_five m h3 h7)).2 q hq; unfold cD4; omega) (cQuads m).length 0 (by omega))
    exact Ev.bind hA (Ev.now _)
  · rw [Bool.not_eq_true] at h
    rw [h, Bool.false_and]
    simp only [Bool.false_eq_true, if_false]
    exact Ev.now _
theorem c_acy_open (n : Int) (s : ByteArray) (h : cAcy n s = true) : ∃ m : Nat, n = (m : Int) ∧ 3 ≤ m ∧ m ≤ 7 ∧ s.size = (cTrips m).length := by
  unfold cAcy at h
  rw [Bool.and_eq_true] at h
  exact c_signs_open n s (c_mat_open n s h.1)
/-- The table of order signs. -/
theorem c_orderOf (n : Int) (s : ByteArray) (hs : s.size ≤ 1099511627776) : Ev (fun k => impl_orderOf.f k n s) (if cAcy n s = true then (cTab n.toNat s, true) else ([], false)) := by
  unfold impl_orderOf.f
  refine Ev.bind (c_implAcy n s hs) ?_
  by_cases h : cAcy n s = true
  · simp only [if_pos h]
    obtain ⟨m, rfl, h3, h7, hz⟩ := c_acy_open n s h
    exact Ev.bind (c_tableOf m h3 h7 s hz) (Ev.now _)
  · simp only [if_neg h]
    exact Ev.now _

end Go.Proofs.Ytmidcafamppkeaa.P
