/- Plain laws of ZoneSum: the program sums over the cells that bear a wire, the reference walks along the wire. Conditions: the list has at most 2^20 places. -/
import Derived.Test.YthibphndihjcaaaCBase
import Derived.Test.YthibphndihjcaaaCSide
import Derived.Test.YthibphndihjcaaaOZone
import Derived.Test.YthibphndihjcaaaP14
import Derived.Test.YthibphndihjcaaaP49
namespace Go.Proofs.Ythibphndihjcaaa.P
open Go.RowKit Go.Proofs.YthibphndihjcaaaW.PrintWords Go.Proofs.YthibphndihjcaaaW.PrintLast
set_option linter.unusedVariables false
set_option linter.unusedSimpArgs false

theorem cSwap_getD (ws : List Int) (p L : Nat) (h : p + 1 < ws.length) : (cSwap ws p).getD L 0 = ws.getD (if L = p then p + 1 else if L = p + 1 then p else L) 0 := by
  unfold cSwap
  rw [List.getD_eq_getElem?_getD]
  by_cases h1 : L = p + 1
  · subst h1
    rw [if_neg (by omega), if_pos rfl, List.getElem?_set_self (by rw [List.length_set]; omega)]; rfl
  · rw [List.getElem?_set_ne (fun he => h1 he.symm)]
    by_cases h2 : L = p
    · subst h2; rw [if_pos rfl, List.getElem?_set_self (by omega)]; rfl
    · rw [if_neg h2, if_neg h1, List.getElem?_set_ne (fun he => h2 he.symm), ← List.getD_eq_getElem?_getD]
/-- No wire twice. -/
def cInj (ws : List Int) : Prop := ∀ a b, a < ws.length → b < ws.length → ws.getD a 0 = ws.getD b 0 → a = b
theorem cInj_swap {ws : List Int} {p : Nat} (h : cInj ws) (hp : p + 1 < ws.length) : cInj (cSwap ws p) := by
  intro a b ha hb he
  rw [cSwap_length] at ha hb
  rw [cSwap_getD ws p a hp, cSwap_getD ws p b hp] at he
  have h2 := h _ _ (by split; omega; split <;> omega) (by split; omega; split <;> omega) he
  split at h2 <;> split at h2 <;> (try split at h2) <;> (try split at h2) <;> omega
theorem cStart_getD (n i : Nat) (h : i < n) : (cStart n).getD i 0 = (i : Int) := by
  unfold cStart
  rw [List.getD_eq_getElem?_getD, List.getElem?_map, List.getElem?_range h]; rfl
theorem cInj_start (n : Nat) : cInj (cStart n) := by
  intro a b ha hb he
  rw [cStart_length] at ha hb
  rw [cStart_getD n a ha, cStart_getD n b hb] at he
  omega
def cNextS (L : Nat) (p : Int) (c : Int) : Int := if p.toNat + 1 = L then 2 else if p.toNat = L ∨ p.toNat + 2 = L then c + 1 else c
/-- The final sides of the cell that is open. -/
def hdS (L : Nat) (w : List Int) (c : Int) : Int := (cRowS L w c).getD 0 0
theorem hdS_cons (L : Nat) (p : Int) (w : List Int) (c : Int) : hdS L (p :: w) c = if p.toNat + 1 = L then c else hdS L w (cNextS L p c) := by
  unfold hdS cNextS
  simp only [cRowS]
  by_cases h1 : p.toNat + 1 = L
  · rw [if_pos h1, if_pos h1]; rfl
  · rw [if_neg h1, if_neg h1, if_neg h1]
    by_cases h2 : p.toNat = L ∨ p.toNat + 2 = L
    · rw [if_pos h2, if_pos h2]
    · rw [if_neg h2, if_neg h2]
/-- What a level adds to the reference's sum; q: the wire's place. -/
def refL (L : Nat) : Nat → List Int → Int → Int
  | q, [], c => if L = q ∨ L = q + 1 then c else 0
  | q, p :: w, c => (if (p.toNat = q ∨ p.toNat + 1 = q) ∧ (L = q ∨ L = q + 1) then hdS L (p :: w) c else 0) + refL L (if p.toNat = q then q + 1 else if p.toNat + 1 = q then q - 1 else q) w (cNextS L p c)
/-- The sum of a row's cells that bear the wire. -/
def zs : List (Int × Bool) → Int
  | [] => 0
  | x :: r => (if x.2 = true then x.1 else 0) + zs r
def newZ (i a b : Int) : Int × Bool := (2, a == i || b == i)
def addZ (i : Int) (c : Int × Bool) (b : Int) : Int × Bool := (c.1 + 1, c.2 || b == i)
theorem rowZ_cons (i : Int) (L : Nat) (ws : List Int) (p : Int) (w : List Int) (c : Int) (o : Bool) {a b : Int} (ha : ws.getD p.toNat 0 = a) (hb : ws.getD (p.toNat + 1) 0 = b) : zs (cRowG (newZ i) (addZ i) L ws (p :: w) (c, o)) = (if p.toNat + 1 = L ∧ o = true then c else 0) + zs (cRowG (newZ i) (addZ i) L (cSwap ws p.toNat) w (cNextS L p c, if p.toNat + 1 = L then (a == i || b == i) else if p.toNat = L then (o || b == i) else if p.toNat + 2 = L then (o || a == i) else o)) := by
  simp only [cRowG, ha, hb]
  unfold cNextS
  by_cases h1 : p.toNat + 1 = L
  · simp only [if_pos h1, zs, newZ]
    cases o <;> simp [h1]
  · have h5 : ¬ (p.toNat + 1 = L ∧ o = true) := fun h => h1 h.1
    simp only [if_neg h1, if_neg h5, Int.zero_add]
    by_cases h2 : p.toNat = L
    · simp only [if_pos h2, if_pos (Or.inl h2 : p.toNat = L ∨ p.toNat + 2 = L), addZ]
    · simp only [if_neg h2]
      by_cases h3 : p.toNat + 2 = L
      · simp only [if_pos h3, if_pos (Or.inr h3 : p.toNat = L ∨ p.toNat + 2 = L), addZ]
      · simp only [if_neg h3, if_neg (show ¬ (p.toNat = L ∨ p.toNat + 2 = L) by omega)]
theorem zs_ref (i : Int) (L : Nat) : ∀ (w ws : List Int) (q : Nat) (c : Int) (o : Bool), cRun ws w = true → cInj ws → q < ws.length → ws.getD q 0 = i → ((L = q ∨ L = q + 1) → o = true) → (o = true → L < q → i < ws.getD L 0) → (o = true → q + 1 < L → ws.getD (L - 1) 0 < i) → L ≤ ws.length →
    zs (cRowG (newZ i) (addZ i) L ws w (c, o)) = (if o = true ∧ L ≠ q ∧ L ≠ q + 1 then hdS L w c else 0) + refL L q w c := by
  intro w
  induction w with
  | nil =>
    intro ws q c o h1 h2 h3 h4 h5 h6 h7 h8
    simp only [cRowG, zs, refL, hdS, cRowS, List.getD_cons_zero, Int.add_zero]
    by_cases hc : L = q ∨ L = q + 1
    · rw [h5 hc, if_pos rfl, if_neg (by omega), if_pos hc, Int.zero_add]
    · rw [if_neg hc, Int.add_zero]
      cases o
      · simp
      · rw [if_pos rfl, if_pos ⟨rfl, by omega, by omega⟩]
  | cons p w ih =>
    intro ws q c o h1 h2 h3 h4 h5 h6 h7 h8
    obtain ⟨⟨p0, p1, p2⟩, hr⟩ := cc_run h1
    obtain ⟨P, hP⟩ : ∃ P : Nat, p.toNat = P := ⟨_, rfl⟩
    rw [hP] at p2 hr
    have hPl : P + 1 < ws.length := by omega
    obtain ⟨a, hA⟩ : ∃ z, ws.getD P 0 = z := ⟨_, rfl⟩
    obtain ⟨b, hB⟩ : ∃ z, ws.getD (P + 1) 0 = z := ⟨_, rfl⟩
    have hab : a < b := by
      have : a ≠ b := fun he => by have := h2 P (P + 1) (by omega) hPl (by rw [hA, hB, he]); omega
      rw [hA, hB] at p2; omega
    have hG := fun L => cSwap_getD ws P L hPl
    rw [rowZ_cons i L ws p w c o (a := a) (b := b) (by rw [hP]; exact hA) (by rw [hP]; exact hB)]
    simp only [refL, hdS_cons, hP]
    obtain ⟨c', hc'⟩ : ∃ z, cNextS L p c = z := ⟨_, rfl⟩
    rw [hc']
    have hinj := cInj_swap h2 hPl
    by_cases c1 : P = q
    · have hia : a = i := by rw [← hA, c1]; exact h4
      have ea : (a == i) = true := beq_iff_eq.2 hia
      have eb : (b == i) = false := beq_eq_false_iff_ne.2 (by omega)
      rw [ea, eb, if_pos c1]
      simp only [Bool.or_false, Bool.or_true, Bool.true_or, Bool.false_or]
      have hq2 : (cSwap ws P).getD (q + 1) 0 = i := by rw [hG, if_neg (by omega), if_pos (by omega), hA]; exact hia
      have IH := fun o' x5 x6 x7 => ih (cSwap ws P) (q + 1) c' o' hr hinj (by rw [cSwap_length]; omega) hq2 x5 x6 x7 (by rw [cSwap_length]; exact h8)
      by_cases d1 : P + 1 = L
      · have ho := h5 (by omega)
        rw [if_pos d1, ho, IH true (fun _ => rfl) (fun _ h => by omega) (fun _ h => by omega), if_pos ⟨d1, rfl⟩, if_neg (by omega), if_neg (by omega), if_pos (by omega), if_pos d1]
        omega
      · rw [if_neg d1]
        by_cases d2 : P = L
        · have ho := h5 (by omega)
          rw [if_pos d2, ho, IH true (fun _ => rfl) (fun _ h => by rw [hG, if_pos (by omega), hB]; omega) (fun _ h => by omega), if_neg (by omega), if_pos ⟨rfl, by omega, by omega⟩, if_neg (by omega), if_pos (by omega), if_neg d1]
        · rw [if_neg d2]
          by_cases d3 : P + 2 = L
          · have ho : o = false := by
              cases o
              · rfl
              · have := h7 rfl (by omega); rw [show L - 1 = P + 1 by omega, hB] at this; omega
            rw [if_pos d3, ho, IH true (fun _ => rfl) (fun _ h => by omega) (fun _ h => by omega), if_neg (by omega), if_neg (by omega), if_neg (by simp), if_neg (by omega)]
          · rw [if_neg d3, IH o (fun h => by omega) (fun h h' => by rw [hG, if_neg (by omega), if_neg (by omega)]; exact h6 h (by omega)) (fun h h' => by rw [hG, if_neg (by omega), if_neg (by omega)]; exact h7 h (by omega)), if_neg (fun h => d1 h.1), if_neg (show ¬ ((P = q ∨ P + 1 = q) ∧ (L = q ∨ L = q + 1)) by omega), if_neg d1]
            cases o
            · simp
            · rw [if_pos ⟨rfl, by omega, by omega⟩, if_pos ⟨rfl, by omega, by omega⟩]; omega
    · rw [if_neg c1]
      by_cases c2 : P + 1 = q
      · have hib : b = i := by rw [← hB, c2]; exact h4
        have ea : (a == i) = false := beq_eq_false_iff_ne.2 (by omega)
        have eb : (b == i) = true := beq_iff_eq.2 hib
        rw [ea, eb, if_pos c2]
        simp only [Bool.or_false, Bool.or_true, Bool.true_or, Bool.false_or]
        have hq2 : (cSwap ws P).getD (q - 1) 0 = i := by rw [hG, if_pos (by omega), hB]; exact hib
        have IH := fun o' x5 x6 x7 => ih (cSwap ws P) (q - 1) c' o' hr hinj (by rw [cSwap_length]; omega) hq2 x5 x6 x7 (by rw [cSwap_length]; exact h8)
        by_cases d1 : P + 1 = L
        · have ho := h5 (by omega)
          rw [if_pos d1, ho, IH true (fun _ => rfl) (fun _ h => by omega) (fun _ h => by omega), if_pos ⟨d1, rfl⟩, if_neg (by omega), if_neg (by omega), if_pos (by omega), if_pos d1]
          omega
        · rw [if_neg d1]
          by_cases d2 : P = L
          · have ho : o = false := by
              cases o
              · rfl
              · have := h6 rfl (by omega); rw [← d2, hA] at this; omega
            rw [if_pos d2, ho, IH true (fun _ => rfl) (fun _ h => by omega) (fun _ h => by omega), if_neg (by omega), if_neg (by omega), if_neg (by simp), if_neg (by omega)]
          · rw [if_neg d2]
            by_cases d3 : P + 2 = L
            · have ho := h5 (by omega)
              rw [if_pos d3, ho, IH true (fun _ => rfl) (fun _ h => by omega) (fun _ h => by rw [hG, if_neg (by omega), if_pos (by omega), hA]; omega), if_neg (by omega), if_pos ⟨rfl, by omega, by omega⟩, if_neg (by omega), if_pos (by omega), if_neg d1]
            · rw [if_neg d3, IH o (fun h => by omega) (fun h h' => by rw [hG, if_neg (by omega), if_neg (by omega)]; exact h6 h (by omega)) (fun h h' => by rw [hG, if_neg (by omega), if_neg (by omega)]; exact h7 h (by omega)), if_neg (fun h => d1 h.1), if_neg (show ¬ ((P = q ∨ P + 1 = q) ∧ (L = q ∨ L = q + 1)) by omega), if_neg d1]
              cases o
              · simp
              · rw [if_pos ⟨rfl, by omega, by omega⟩, if_pos ⟨rfl, by omega, by omega⟩]; omega
      · rw [if_neg c2]
        have hia : a ≠ i := fun he => c1 (h2 P q (by omega) h3 (by rw [hA, h4]; exact he))
        have hib : b ≠ i := fun he => c2 (h2 (P + 1) q hPl h3 (by rw [hB, h4]; exact he))
        have ea : (a == i) = false := beq_eq_false_iff_ne.2 hia
        have eb : (b == i) = false := beq_eq_false_iff_ne.2 hib
        rw [ea, eb]
        simp only [Bool.or_false, Bool.or_true, Bool.true_or, Bool.false_or]
        have hq2 : (cSwap ws P).getD q 0 = i := by rw [hG, if_neg (by omega), if_neg (by omega)]; exact h4
        have IH := fun o' x5 x6 x7 => ih (cSwap ws P) q c' o' hr hinj (by rw [cSwap_length]; omega) hq2 x5 x6 x7 (by rw [cSwap_length]; exact h8)
        have hev : ¬ ((P = q ∨ P + 1 = q) ∧ (L = q ∨ L = q + 1)) := by omega
        rw [if_neg hev]
        by_cases d1 : P + 1 = L
        · rw [if_pos d1, IH false (fun h => by omega) (fun h => by simp at h) (fun h => by simp at h), if_pos d1]
          cases o
          · simp
          · rw [if_pos ⟨d1, rfl⟩, if_neg (by simp), if_pos ⟨rfl, by omega, by omega⟩]
        · rw [if_neg d1, if_neg d1, if_neg (fun h => d1 h.1)]
          have hoo : (if P = L then o else if P + 2 = L then o else o) = o := by
            split
            · rfl
            · split <;> rfl
          rw [hoo, IH o h5 (fun h h' => by
            have h9 := h6 h h'
            rw [hG]
            by_cases d2 : L = P
            · rw [if_pos d2, hB]; rw [d2, hA] at h9; omega
            · rw [if_neg d2, if_neg (by omega)]; exact h9) (fun h h' => by
            have h9 := h7 h h'
            rw [hG, if_neg (by omega)]
            by_cases d2 : L - 1 = P + 1
            · rw [if_pos d2, hA]; rw [d2, hB] at h9; omega
            · rw [if_neg d2]; exact h9)]
          omega

/-! The program's sum. -/
theorem ce_bits_all : ∀ f ∈ List.range 64, ∀ i ∈ List.range 6, (Go.bits .and .i64 (shr .i64 ((f : Nat) : Int) ((i : Nat) : Int)) 1 == 1) = f.testBit i := by decide +kernel
theorem ceOn_nat {c : CE} {f i : Nat} (hc : c.f1 = (f : Int)) (hf : f < 64) (hi : i < 6) : ceOn c (i : Int) = f.testBit i := by
  unfold ceOn; rw [hc]; exact ce_bits_all f (List.mem_range.2 hf) i (List.mem_range.2 hi)
def gZ (i : Int) (c : CE) : Int × Bool := (c.f0, ceOn c i)
theorem gZ_new (i : Nat) (hi : i < 6) (c : CE) (k a b : Int) (a0 : 0 ≤ a) (a6 : a < 6) (b0 : 0 ≤ b) (b6 : b < 6) : gZ i (ceNew c k a b) = newZ i a b := by
  obtain ⟨q, rfl⟩ : ∃ q : Nat, b = (q : Int) := ⟨b.toNat, by omega⟩
  obtain ⟨p, rfl⟩ : ∃ p : Nat, a = (p : Int) := ⟨a.toNat, by omega⟩
  have h := ceNew_f1 c k (show p < 6 by omega) (show q < 6 by omega)
  unfold gZ newZ
  rw [ceOn_nat h.1 h.2 hi, Nat.testBit_or, Nat.testBit_two_pow, Nat.testBit_two_pow]
  congr 1
  congr 1
  · rw [Bool.eq_iff_iff]; simp only [decide_eq_true_eq, beq_iff_eq]; omega
  · rw [Bool.eq_iff_iff]; simp only [decide_eq_true_eq, beq_iff_eq]; omega
theorem gZ_add (i : Nat) (hi : i < 6) (c : CE) (b B : Int) (hc : ceOk B c) (hB : B < 1000000) (b0 : 0 ≤ b) (b6 : b < 6) : gZ i (ceAdd c b) = addZ i (gZ i c) b := by
  obtain ⟨q, rfl⟩ : ∃ q : Nat, b = (q : Int) := ⟨b.toNat, by omega⟩
  have h0 := (ceAdd_ok hc hB b0 b6).2
  obtain ⟨_, _, f, hf, hf6⟩ := hc
  have h := ceAdd_f1 hf hf6 (show q < 6 by omega)
  unfold gZ addZ
  rw [h0, ceOn_nat h.1 h.2 hi, ceOn_nat hf hf6 hi, Nat.testBit_or, Nat.testBit_two_pow]
  congr 1
  congr 1
  rw [Bool.eq_iff_iff]; simp only [decide_eq_true_eq, beq_iff_eq]; omega
theorem gZ_start : ∀ n ∈ List.range 7, ∀ L ∈ List.range 7, L ≤ n → ∀ i ∈ List.range 6, i < n → gZ ((i : Nat) : Int) (ceI2 ((n : Nat) : Int) ((L : Nat) : Int)) = (cB n L, decide (L = i ∨ L = i + 1)) := by
  intro n hn L hL hLn i hi hin
  have h := ceI2_all n hn L hL hLn
  unfold gZ
  rw [h.1, ceOn_nat h.2.1 h.2.2 (List.mem_range.1 hi)]
  congr 1
  unfold cA
  rw [Nat.testBit_or]
  have e1 : (if 0 < L then 2 ^ (L - 1) else 0).testBit i = decide (0 < L ∧ L - 1 = i) := by
    by_cases h0 : 0 < L
    · rw [if_pos h0, Nat.testBit_two_pow]; exact decide_eq_decide.2 (by omega)
    · rw [if_neg h0, Nat.zero_testBit]; exact (decide_eq_false (by omega)).symm
  have e2 : (if L < n then 2 ^ L else 0).testBit i = decide (L < n ∧ L = i) := by
    by_cases h0 : L < n
    · rw [if_pos h0, Nat.testBit_two_pow]; exact decide_eq_decide.2 (by omega)
    · rw [if_neg h0, Nat.zero_testBit]; exact (decide_eq_false (by omega)).symm
  rw [e1, e2, ← Bool.decide_or]
  exact decide_eq_decide.2 (by omega)
theorem wrap_add (a b : Int) : wrap64 (wrap64 a + b) = wrap64 (a + b) := by unfold wrap64; omega
theorem zoRow (i : Int) : ∀ (row : List CE) (a : Int), row.foldl (zoAdd i) (wrap64 a) = wrap64 (a + zs (row.map (gZ i)))
  | [], a => by simp [zs]
  | c :: row, a => by
    simp only [List.foldl_cons, List.map_cons, zs]
    have h : zoAdd i (wrap64 a) c = wrap64 (a + (if (gZ i c).2 = true then (gZ i c).1 else 0)) := by
      unfold zoAdd gZ
      by_cases h : ceOn c i = true
      · rw [if_pos h, if_pos h, wrap_add]
      · rw [if_neg h, if_neg h, Int.add_zero]
    rw [h, zoRow i row, Int.add_assoc]
/-- Sums over levels. -/
def sumN : Nat → (Nat → Int) → Int
  | 0, _ => 0
  | m + 1, f => sumN m f + f m
theorem sumN_add (f g : Nat → Int) : ∀ m, sumN m (fun L => f L + g L) = sumN m f + sumN m g
  | 0 => rfl
  | m + 1 => by simp only [sumN, sumN_add f g m]; omega
theorem sumN_congr {f g : Nat → Int} : ∀ m, (∀ L, L < m → f L = g L) → sumN m f = sumN m g
  | 0, _ => rfl
  | m + 1, h => by simp only [sumN]; rw [sumN_congr m (fun L hL => h L (by omega)), h m (by omega)]
theorem sumN_two (h : Nat → Int) (q : Nat) : ∀ m, sumN m (fun L => if L = q ∨ L = q + 1 then h L else 0) = (if q < m then h q else 0) + (if q + 1 < m then h (q + 1) else 0)
  | 0 => rfl
  | m + 1 => by
    simp only [sumN, sumN_two h q m]
    by_cases h1 : m = q
    · subst h1; rw [if_neg (by omega), if_neg (by omega), if_pos (.inl rfl), if_pos (by omega), if_neg (by omega)]; omega
    · by_cases h2 : m = q + 1
      · subst h2; rw [if_pos (by omega), if_neg (by omega), if_pos (.inr rfl), if_pos (by omega), if_pos (by omega)]; omega
      · rw [if_neg (show ¬ (m = q ∨ m = q + 1) by omega), Int.add_zero]
        by_cases h3 : q < m
        · have h4 : q + 1 < m := by omega
          rw [if_pos h3, if_pos h4, if_pos (by omega), if_pos (by omega)]
        · rw [if_neg h3, if_neg (by omega), if_neg (by omega), if_neg (by omega)]
theorem sumN_zero : ∀ m, sumN m (fun _ => 0) = 0
  | 0 => rfl
  | m + 1 => by simp only [sumN, sumN_zero m]; rfl
theorem zoAll_sum (i : Int) : ∀ (C : List (List CE)) (a : Int), C.foldl (fun a row => row.foldl (zoAdd i) a) (wrap64 a) = wrap64 (a + sumN C.length (fun L => zs ((C.getD L []).map (gZ i)))) := by
  intro C
  have gen : ∀ (D : List (List CE)) (a : Int), D.foldl (fun a row => row.foldl (zoAdd i) a) (wrap64 a) = wrap64 (a + (D.map fun r => zs (r.map (gZ i))).sum) := by
    intro D
    induction D with
    | nil => intro a; simp
    | cons r D ih => intro a; simp only [List.foldl_cons, List.map_cons, List.sum_cons]; rw [zoRow, ih, Int.add_assoc]
  intro a
  rw [gen]
  congr 2
  have gen2 : ∀ m, m ≤ C.length → sumN m (fun L => zs ((C.getD L []).map (gZ i))) = ((C.take m).map fun r => zs (r.map (gZ i))).sum := by
    intro m
    induction m with
    | zero => intro _; simp [sumN]
    | succ m ih =>
      intro hm
      simp only [sumN]
      rw [ih (by omega), List.take_succ_eq_append_getElem (by omega), List.map_append, List.sum_append, List.getD_eq_getElem?_getD, List.getElem?_eq_getElem (by omega)]
      simp
  rw [gen2 C.length (Nat.le_refl _), List.take_length]
/-- Both answers. -/
def cZS (n : Int) (w : List Int) (i : Int) : Int := if cIsW n w = true then (if 0 ≤ i ∧ i < n then wrap64 (sumN (n.toNat + 1) fun L => refL L i.toNat w (cB n.toNat L)) else -1) else -1
theorem zo_ref {n : Int} {w : List Int} (h : cIsW n w = true) {i : Int} (h0 : 0 ≤ i) (hn : i < n) : zoAll i (ceAll n (cStart n.toNat) w) = wrap64 (sumN (n.toNat + 1) fun L => refL L i.toNat w (cB n.toNat L)) := by
  have hr := (c_isW_spec h).2.2.2
  obtain ⟨h3, h6, -, -⟩ := c_isW_spec h
  obtain ⟨I, rfl⟩ : ∃ I : Nat, i = (I : Int) := ⟨i.toNat, by omega⟩
  have hI : I < 6 := by omega
  have hC := ce_all (g := gZ (I : Int)) (new := newZ (I : Int)) (add := addZ (I : Int)) (fun _ _ => rfl) (fun c k a b a0 a6 b0 b6 => gZ_new I hI c k a b a0 a6 b0 b6) (fun c b B hc hB b0 b6 => gZ_add I hI c b B hc hB b0 b6) h
  have hs := zoAll_sum (I : Int) (ceAll n (cStart n.toNat) w) 0
  unfold zoAll
  rw [c_wid 0 (by omega) (by omega)] at hs
  rw [hs, hC.1, Int.zero_add]
  congr 1
  refine sumN_congr _ (fun L hL => ?_)
  have e1 := gZ_start n.toNat (List.mem_range.2 (by omega)) L (List.mem_range.2 (by omega)) (by omega) I (List.mem_range.2 hI) (by omega)
  rw [show ((n.toNat : Nat) : Int) = n by omega] at e1
  rw [hC.2 L (by omega), e1, Int.toNat_natCast]
  have hg : ∀ j, j < n.toNat → (cStart n.toNat).getD j 0 = (j : Int) := fun j hj => cStart_getD _ _ hj
  rw [zs_ref (I : Int) L w (cStart n.toNat) I (cB n.toNat L) _ hr (cInj_start _) (by rw [cStart_length]; omega) (hg I (by omega)) (fun hc => decide_eq_true hc) (fun hc hl => by have := of_decide_eq_true hc; omega) (fun hc hl => by have := of_decide_eq_true hc; omega) (by rw [cStart_length]; omega)]
  rw [if_neg (fun hc => by have := of_decide_eq_true hc.1; omega), Int.zero_add]
theorem c_isE (n i : Int) : impl_isElement.f n i = some (decide (0 ≤ i ∧ i < n)) := by
  unfold impl_isElement.f
  by_cases h : i ≥ 0
  · rw [if_pos h]; exact congrArg some (decide_eq_decide.2 (by omega))
  · rw [if_neg h]; exact congrArg some (decide_eq_false (by omega)).symm
theorem cI_ZS (n : Int) (w : List Int) (i : Int) (hl : w.length ≤ 1048576) : Ev (fun k => impl_ZoneSum.f k n w i) (cZS n w i) := by
  unfold impl_ZoneSum.f cZS
  refine Ev.bind (c_isW n w (by omega)) ?_
  by_cases h : cIsW n w = true
  · simp only [h, if_true, c_isE, Option.bind_some, decide_eq_true_eq]
    by_cases hi : 0 ≤ i ∧ i < n
    · simp only [if_pos hi]
      refine Ev.bind (c_cellsOf h) ?_
      have hb := cRows_bd h
      refine ⟨0, fun k _ => ?_⟩
      rw [← zo_ref h hi.1 hi.2]
      exact if_pos ⟨by omega, fun y hy => by have := hb.2 y hy; omega⟩
    · simp only [if_neg hi]; exact Ev.now _
  · simp only [if_neg h]; exact Ev.now _

/-! The reference's walk. -/
theorem c_place_z (ws : List Int) (x : Int) (q : Nat) (hl : ws.length ≤ 1000) (hq : q < ws.length) (hx : ws.getD q 0 = x) (hinj : cInj ws) : ∀ (d i : Nat), i + d = q → Ev (fun k => spec_l12Place.l0 k ws x (i : Int)) (q : Int) := by
  intro d
  induction d with
  | zero =>
    intro i hi
    have hiq : i = q := by omega
    refine Ev.step (f := fun _ => some (q : Int)) (fun k => ?_) (Ev.now _)
    simp only [spec_l12Place.l0]
    rw [if_pos (by omega), if_pos (by omega), c_rd, hiq, if_pos hx]
  | succ d ih =>
    intro i hi
    have hne : ¬ ws.getD i 0 = x := fun he => by have := hinj i q (by omega) hq (by rw [he, hx]); omega
    refine Ev.step (f := fun k => spec_l12Place.l0 k ws x ((i + 1 : Nat) : Int)) (fun k => ?_) (ih (i + 1) (by omega))
    simp only [spec_l12Place.l0]
    rw [if_pos (by omega), if_pos (by omega), c_rd, if_neg hne, c_w1 i (by omega)]
/-- The sides of the cell that is open behind some exchanges. -/
def cEndS (L : Nat) : List Int → Int → Int
  | [], c => c
  | p :: w, c => cEndS L w (cNextS L p c)
theorem cEndS_snoc (L : Nat) (p : Int) : ∀ (u : List Int) (c : Int), cEndS L (u ++ [p]) c = cNextS L p (cEndS L u c)
  | [], _ => rfl
  | q :: u, c => by simp only [List.cons_append, cEndS]; exact cEndS_snoc L p u _
theorem cRowS_open (L : Nat) (v : List Int) : ∀ (u : List Int) (c : Int), (cRowS L (u ++ v) c).getD (cCnt L u) 0 = hdS L v (cEndS L u c)
  | [], c => rfl
  | p :: u, c => by
    simp only [List.cons_append, cRowS, cCnt, cEndS, cNextS]
    by_cases h1 : p.toNat + 1 = L
    · rw [if_pos h1, if_pos h1, if_pos h1, Nat.add_comm, List.getD_cons_succ]; exact cRowS_open L v u 2
    · rw [if_neg h1, if_neg h1, if_neg h1, Nat.zero_add]
      by_cases h2 : p.toNat = L ∨ p.toNat + 2 = L
      · rw [if_pos h2, if_pos h2]; exact cRowS_open L v u _
      · rw [if_neg h2, if_neg h2]; exact cRowS_open L v u _
theorem cCnt_app (L : Nat) (v : List Int) : ∀ u : List Int, cCnt L (u ++ v) = cCnt L u + cCnt L v
  | [] => by simp [cCnt]
  | p :: u => by simp only [List.cons_append, cCnt, cCnt_app L v u]; omega
theorem cZ_sides {n : Int} {w : List Int} (h : cIsW n w = true) (i L : Nat) (hL : L ≤ n.toNat) : Ev (fun k => spec_l16Sides.f k n w (L : Int) (cCnt L (w.take i) : Int)) (hdS L (w.drop i) (cEndS L (w.take i) (cB n.toNat L))) := by
  have h1 : cCnt L (w.take i) ≤ cCnt L w := by
    have := cCnt_app L (w.drop i) (w.take i)
    rw [List.take_append_drop] at this; omega
  have h2 := c_sides h L (cCnt L (w.take i)) hL h1
  have h3 := cRowS_open L (w.drop i) (w.take i) (cB n.toNat L)
  rw [List.take_append_drop] at h3
  rw [h3] at h2
  exact h2
theorem cS_ZS0 {n : Int} {w : List Int} (h : cIsW n w = true) (x : Int) : ∀ (d i q : Nat) (ws met : List Int) (s : Int), i + d = w.length → (ws.length : Int) = n → cInj ws → cRun ws (w.drop i) = true → q < ws.length → ws.getD q 0 = x → met.length = n.toNat + 1 → (∀ L, L ≤ n.toNat → met.getD L 0 = (cCnt L (w.take i) : Int)) →
    Ev (fun k => spec_ZoneSum.l0 k n w x ws met (wrap64 s) (i : Int)) (wrap64 (s + sumN (n.toNat + 1) fun L => refL L q (w.drop i) (cEndS L (w.take i) (cB n.toNat L)))) := by
  obtain ⟨h3, h6, -, -⟩ := c_isW_spec h
  have hwl := c_isW_len h
  have hpl := c_isW_places h
  intro d
  induction d with
  | zero =>
    intro i q ws met s hi hws hinj hr hq hx hm hmet
    have hiw : i = w.length := by omega
    have h1 := cZ_sides h i q (by omega)
    have h2 := cZ_sides h i (q + 1) (by omega)
    rw [List.drop_eq_nil_of_le (by omega)] at h1 h2 ⊢
    obtain ⟨f, hf⟩ : ∃ f : Nat → Int, f = fun L => cEndS L (w.take i) (cB n.toNat L) := ⟨_, rfl⟩
    have hs : sumN (n.toNat + 1) (fun L => refL L q [] (cEndS L (w.take i) (cB n.toNat L))) = f q + f (q + 1) := by
      rw [show (fun L => refL L q [] (cEndS L (w.take i) (cB n.toNat L))) = fun L => if L = q ∨ L = q + 1 then f L else 0 from by rw [hf]; rfl, sumN_two, if_pos (by omega), if_pos (by omega)]
    rw [hs]
    have g1 : hdS q [] (cEndS q (w.take i) (cB n.toNat q)) = f q := by rw [hf]; rfl
    have g2 : hdS (q + 1) [] (cEndS (q + 1) (w.take i) (cB n.toNat (q + 1))) = f (q + 1) := by rw [hf]; rfl
    rw [g1] at h1
    rw [g2] at h2
    have E1 := Aside0.mk (show wrap64 ((q : Int) + 1) = ((q + 1 : Nat) : Int) from c_w1 q (by omega))
    have E2 := Aside0.mk (show wrap64 ((i : Int) + 1) = ((i + 1 : Nat) : Int) from c_w1 i (by omega))
    refine Ev.step (f := fun k => (spec_l12Place.f k ws x).bind fun t => spec_ZoneSum.j2 k n w x ws met (wrap64 s) (i : Int) t true) (fun k => ?_) ?_
    · simp only [spec_ZoneSum.l0]
      rw [if_pos (by omega)]
      congr 1; funext t
      rw [if_pos (by omega)]
    · refine Ev.bind (c_place_z ws x q (by omega) hq hx hinj q 0 (by omega)) ?_
      refine Ev.step (f := fun k => (spec_l16Sides.f k n w (q : Int) (cCnt q (w.take i) : Int)).bind fun a => (spec_l16Sides.f k n w ((q + 1 : Nat) : Int) (cCnt (q + 1) (w.take i) : Int)).bind fun b => spec_ZoneSum.l0 k n w x ws met (wrap64 (wrap64 (wrap64 s + a) + b)) ((i + 1 : Nat) : Int)) (fun k => ?_) ?_
      · simp only [spec_ZoneSum.j2, if_true]
        rw [if_pos (by omega), if_pos (by omega), c_rd, hmet q (by omega)]
        congr 1; funext a
        rw [E1.out, if_pos (by omega), if_pos (by omega), c_rd, hmet (q + 1) (by omega)]
        congr 1; funext b
        rw [if_neg (by omega), E2.out]
      · refine Ev.bind h1 (Ev.bind h2 ?_)
        refine Ev.step (f := fun _ => some (wrap64 (s + (f q + f (q + 1))))) (fun k => ?_) (Ev.now _)
        simp only [spec_ZoneSum.l0]
        rw [if_neg (by omega), wrap_add, Int.add_assoc, wrap_add]
  | succ d ih =>
    intro i q ws met s hi hws hinj hr hq hx hm hmet
    have hil : i < w.length := by omega
    have hpi := hpl _ (cc_getD_mem hil)
    have h1 := cZ_sides h i q (by omega)
    have h2 := cZ_sides h i (q + 1) (by omega)
    have hsw := c_swap ws (w.getD i 0) (by omega) (by omega)
    have htk : w.take (i + 1) = w.take i ++ [w.getD i 0] := by rw [List.take_succ_eq_append_getElem hil, List.getD_eq_getElem?_getD, List.getElem?_eq_getElem hil]; rfl
    rw [c_drop w i hil] at hr h1 h2 ⊢
    obtain ⟨hok, hr2⟩ := cc_run hr
    rw [if_pos hok] at hsw
    obtain ⟨p, hp⟩ : ∃ p : Nat, w.getD i 0 = (p : Int) := ⟨(w.getD i 0).toNat, by omega⟩
    rw [hp, Int.toNat_natCast] at hsw hr2
    rw [hp] at h1 h2 htk ⊢
    obtain ⟨o0, o1, -⟩ := hok
    rw [hp] at o0 o1 hpi
    have hpl2 : p + 1 < ws.length := by omega
    obtain ⟨f, hf⟩ : ∃ f : Nat → Int, f = fun L => hdS L ((p : Int) :: w.drop (i + 1)) (cEndS L (w.take i) (cB n.toNat L)) := ⟨_, rfl⟩
    obtain ⟨q', hq'⟩ : ∃ q' : Nat, q' = if p = q then q + 1 else if p + 1 = q then q - 1 else q := ⟨_, rfl⟩
    have hq2 : q' < (cSwap ws p).length := by rw [cSwap_length, hq']; split; omega; split <;> omega
    have hx2 : (cSwap ws p).getD q' 0 = x := by
      rw [cSwap_getD ws p q' hpl2, ← hx]
      congr 1
      rw [hq']
      by_cases c1 : p = q
      · rw [if_pos c1, if_neg (by omega), if_pos (by omega)]; exact c1
      · rw [if_neg c1]
        by_cases c2 : p + 1 = q
        · rw [if_pos c2, if_pos (by omega)]; exact c2
        · rw [if_neg c2, if_neg (by omega), if_neg (by omega)]
    have hs : sumN (n.toNat + 1) (fun L => refL L q ((p : Int) :: w.drop (i + 1)) (cEndS L (w.take i) (cB n.toNat L))) = (if p = q ∨ p + 1 = q then f q + f (q + 1) else 0) + sumN (n.toNat + 1) (fun L => refL L q' (w.drop (i + 1)) (cEndS L (w.take (i + 1)) (cB n.toNat L))) := by
      have e : (fun L => refL L q ((p : Int) :: w.drop (i + 1)) (cEndS L (w.take i) (cB n.toNat L))) = fun L => (if (p = q ∨ p + 1 = q) ∧ (L = q ∨ L = q + 1) then f L else 0) + refL L q' (w.drop (i + 1)) (cEndS L (w.take (i + 1)) (cB n.toNat L)) := by
        funext L
        rw [htk, cEndS_snoc, hf, hq']
        rfl
      rw [e, sumN_add]
      congr 1
      by_cases c1 : p = q ∨ p + 1 = q
      · rw [if_pos c1, show (fun L => if (p = q ∨ p + 1 = q) ∧ (L = q ∨ L = q + 1) then f L else 0) = fun L => if L = q ∨ L = q + 1 then f L else 0 from by funext L; simp only [c1, true_and], sumN_two, if_pos (by omega), if_pos (by omega)]
      · rw [if_neg c1, show (fun L => if (p = q ∨ p + 1 = q) ∧ (L = q ∨ L = q + 1) then f L else 0) = fun _ => 0 from by funext L; exact if_neg (fun hc => c1 hc.1), sumN_zero]
    have g1 : hdS q ((p : Int) :: w.drop (i + 1)) (cEndS q (w.take i) (cB n.toNat q)) = f q := by rw [hf]
    have g2 : hdS (q + 1) ((p : Int) :: w.drop (i + 1)) (cEndS (q + 1) (w.take i) (cB n.toNat (q + 1))) = f (q + 1) := by rw [hf]
    rw [g1] at h1
    rw [g2] at h2
    rw [hs]
    have hmet2 : ∀ L, L ≤ n.toNat → (met.set (p + 1) ((cCnt (p + 1) (w.take i) + 1 : Nat) : Int)).getD L 0 = (cCnt L (w.take (i + 1)) : Int) := by
      intro L hL
      rw [htk, cCnt_app, List.getD_eq_getElem?_getD]
      simp only [cCnt, Int.toNat_natCast, Nat.add_zero]
      by_cases c1 : p + 1 = L
      · subst c1; rw [List.getElem?_set_self (by omega), if_pos rfl]; rfl
      · rw [List.getElem?_set_ne c1, if_neg c1, Nat.add_zero, ← List.getD_eq_getElem?_getD]; exact hmet L hL
    have IH := fun s' => ih (i + 1) q' (cSwap ws p) (met.set (p + 1) ((cCnt (p + 1) (w.take i) + 1 : Nat) : Int)) s' (by omega) (by rw [cSwap_length]; exact hws) (cInj_swap hinj hpl2) hr2 hq2 hx2 (by rw [List.length_set]; exact hm) hmet2
    have E1 := Aside0.mk (show wrap64 ((q : Int) + 1) = ((q + 1 : Nat) : Int) from c_w1 q (by omega))
    have E2 := Aside0.mk (show wrap64 ((i : Int) + 1) = ((i + 1 : Nat) : Int) from c_w1 i (by omega))
    have E3 := Aside0.mk (show wrap64 ((p : Int) + 1) = ((p + 1 : Nat) : Int) from c_w1 p (by omega))
    have E4 := Aside0.mk (show wrap64 (((cCnt (p + 1) (w.take i) : Nat) : Int) + 1) = ((cCnt (p + 1) (w.take i) + 1 : Nat) : Int) from c_w1 _ (by have := cCnt_le (p + 1) (w.take i); rw [List.length_take] at this; omega))
    have E5 := Aside0.mk (show wrap64 ((q : Int) - 1) = (q : Int) - 1 by unfold wrap64; omega)
    refine Ev.step (f := fun k => (spec_l12Place.f k ws x).bind fun t => if (p : Int) = t then spec_ZoneSum.j2 k n w x ws met (wrap64 s) (i : Int) t true else spec_ZoneSum.j2 k n w x ws met (wrap64 s) (i : Int) t ((p : Int) == wrap64 (t - 1))) (fun k => ?_) ?_
    · simp only [spec_ZoneSum.l0]
      rw [if_pos (by omega)]
      congr 1; funext t
      rw [if_neg (by omega), if_pos (by omega), if_pos (by omega), c_rd, hp]
    · refine Ev.bind (c_place_z ws x q (by omega) hq hx hinj q 0 (by omega)) ?_
      by_cases c1 : p = q ∨ p + 1 = q
      · rw [if_pos c1]
        have hT : Ev (fun k => spec_ZoneSum.j2 k n w x ws met (wrap64 s) (i : Int) (q : Int) true) (wrap64 (s + (f q + f (q + 1) + sumN (n.toNat + 1) (fun L => refL L q' (w.drop (i + 1)) (cEndS L (w.take (i + 1)) (cB n.toNat L)))))) := by
          refine Ev.step (f := fun k => (spec_l16Sides.f k n w (q : Int) (cCnt q (w.take i) : Int)).bind fun a => (spec_l16Sides.f k n w ((q + 1 : Nat) : Int) (cCnt (q + 1) (w.take i) : Int)).bind fun b => spec_ZoneSum.l0 k n w x (cSwap ws p) (met.set (p + 1) ((cCnt (p + 1) (w.take i) + 1 : Nat) : Int)) (wrap64 (wrap64 (wrap64 s + a) + b)) ((i + 1 : Nat) : Int)) (fun k => ?_) ?_
          · simp only [spec_ZoneSum.j2, if_true]
            rw [if_pos (by omega), if_pos (by omega), c_rd, hmet q (by omega)]
            congr 1; funext a
            rw [E1.out, if_pos (by omega), if_pos (by omega), c_rd, hmet (q + 1) (by omega)]
            congr 1; funext b
            rw [if_pos (by omega), if_pos (by omega), c_rd, hp, hsw, Option.bind_some, E3.out, if_pos (by omega), if_pos (by omega), c_rd, hmet (p + 1) (by omega), E4.out, E2.out, Int.toNat_natCast]
          · refine Ev.bind h1 (Ev.bind h2 ?_)
            have h9 := IH (s + (f q + f (q + 1)))
            rw [Int.add_assoc] at h9
            rw [wrap_add, Int.add_assoc, wrap_add]
            exact h9
        rcases c1 with c1 | c1
        · simp only [if_pos (show ((p : Nat) : Int) = ((q : Nat) : Int) by omega)]; exact hT
        · simp only [if_neg (show ¬ ((p : Nat) : Int) = ((q : Nat) : Int) by omega), E5.out, show (((p : Nat) : Int) == ((q : Nat) : Int) - 1) = true from beq_iff_eq.2 (by omega)]; exact hT
      · rw [if_neg c1, Int.zero_add]
        simp only [if_neg (show ¬ ((p : Nat) : Int) = ((q : Nat) : Int) by omega), E5.out, show (((p : Nat) : Int) == ((q : Nat) : Int) - 1) = false from beq_eq_false_iff_ne.2 (by omega)]
        refine Ev.step (f := fun k => spec_ZoneSum.l0 k n w x (cSwap ws p) (met.set (p + 1) ((cCnt (p + 1) (w.take i) + 1 : Nat) : Int)) (wrap64 s) ((i + 1 : Nat) : Int)) (fun k => ?_) (IH s)
        simp only [spec_ZoneSum.j2, Bool.false_eq_true, if_false]
        rw [if_pos (by omega), if_pos (by omega), c_rd, hp, hsw, Option.bind_some, E3.out, if_pos (by omega), if_pos (by omega), c_rd, hmet (p + 1) (by omega), E4.out, E2.out, Int.toNat_natCast]
theorem cS_ZS (n : Int) (w : List Int) (i : Int) (hl : w.length ≤ 1048576) : Ev (fun k => spec_ZoneSum.f k n w i) (cZS n w i) := by
  unfold spec_ZoneSum.f cZS
  refine Ev.bind (c_isWiring n w (by omega)) ?_
  have hj : ∀ b : Bool, Ev (fun k => spec_ZoneSum.j0 k n w i true) (-1) := fun _ => Ev.step (f := fun _ => some (-1)) (fun k => by simp only [spec_ZoneSum.j0, if_true]) (Ev.now _)
  by_cases h : cIsW n w = true
  · obtain ⟨h3, h6, -, -⟩ := c_isW_spec h
    have hr := (c_isW_spec h).2.2.2
    simp only [h, if_true]
    have hin : spec_l1In.f i 0 (wrap64 (n - 1)) = some (decide (0 ≤ i ∧ i < n)) := by
      unfold spec_l1In.f
      rw [c_wid (n - 1) (by omega) (by omega)]
      by_cases h0 : i ≥ 0
      · rw [if_pos h0]; exact congrArg some (decide_eq_decide.2 (by omega))
      · rw [if_neg h0]; exact congrArg some (decide_eq_false (by omega)).symm
    simp only [hin, Option.bind_some]
    by_cases hi : 0 ≤ i ∧ i < n
    · rw [decide_eq_true hi, if_pos hi]
      refine Ev.step (f := fun k => (spec_l12Start.f k n).bind fun t => spec_ZoneSum.l0 k n w i t (List.replicate (n.toNat + 1) 0) 0 0) (fun k => ?_) ?_
      · simp only [spec_ZoneSum.j0, Bool.not_true, Bool.false_eq_true, if_false]
        congr 1; funext t
        rw [c_wid (n + 1) (by omega) (by omega), if_pos (by omega), if_pos (by omega), show (n + 1).toNat = n.toNat + 1 by omega]
      · refine Ev.bind (c_start n h3 h6) ?_
        have h9 := cS_ZS0 h i w.length 0 i.toNat (cStart n.toNat) (List.replicate (n.toNat + 1) 0) 0 (by omega) (by rw [cStart_length]; omega) (cInj_start _) (by rw [List.drop_zero]; exact hr) (by rw [cStart_length]; omega) (by rw [cStart_getD _ _ (by omega)]; omega) (by simp) (fun L hL => by
          rw [List.getD_eq_getElem?_getD, List.getElem?_replicate, if_pos (by omega)]; rfl)
        rw [c_wid 0 (by omega) (by omega), List.drop_zero, Int.zero_add] at h9
        exact h9
    · rw [decide_eq_false hi, if_neg hi]
      exact hj true
  · simp only [if_neg h]; exact hj true

end Go.Proofs.Ythibphndihjcaaa.P
