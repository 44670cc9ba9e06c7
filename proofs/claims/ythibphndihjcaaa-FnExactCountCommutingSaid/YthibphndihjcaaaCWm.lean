/- May a pair be exchanged? The program's answer is the reference's, as long as the pairs that are done fit the signs. Conditions: signs of at most six elements. -/
import Derived.Test.YthibphndihjcaaaCWsg
namespace Go.Proofs.Ythibphndihjcaaa.P
open Go.RowKit Go.Proofs.YthibphndihjcaaaW.PrintWords Go.Proofs.YthibphndihjcaaaW.PrintLast
set_option linter.unusedVariables false
set_option linter.unusedSimpArgs false

/-- The pairs that are done fit the signs. -/
def gInv (n : Nat) (s : ByteArray) (d : Nat → Nat → Bool) : Prop := ∀ x y z, x < y → y < z → z < n → (0 < cAt n s x y z → d x z = true → d x y = true) ∧ (¬ 0 < cAt n s x y z → d x z = true → d y z = true)
theorem g_scan_hit (D : List Bool) (a b : Int) (r : List (Int × Int)) : mayScan D a b ((a, b) :: r) = true := by simp [mayScan]
theorem g_scan_no (D : List Bool) (a b : Nat) (y z : Nat) (r : List (Int × Int)) (h : ¬ (y = a ∧ z = b)) : mayScan D (a : Int) (b : Int) (((y : Int), (z : Int)) :: r) = (D.getD (y * 6 + z) false && mayScan D (a : Int) (b : Int) r) := by
  rw [mayScan, if_neg (fun h' : ((y : Int) = (a : Int) ∧ (z : Int) = (b : Int)) => h ⟨Int.ofNat.inj h'.1, Int.ofNat.inj h'.2⟩)]
  simp only [Int.toNat_natCast]
  by_cases hh : D.getD (y * 6 + z) false = true
  · rw [if_pos hh, hh, Bool.true_and]
  · rw [if_neg hh, Bool.eq_false_iff.mpr hh, Bool.false_and]
theorem g_S_hi (a b x : Int) (h : a < b) (h2 : b < x) : mayS a b x = [a, b, x] := by
  unfold mayS
  simp [List.mergeSort, List.MergeSort.Internal.splitInTwo, List.merge, List.splitAt, List.splitAt.go, Int.le_of_lt h, Int.le_of_lt h2, Int.le_of_lt (Int.lt_trans h h2)]
theorem g_S_mid (a b x : Int) (h : a < x) (h2 : x < b) : mayS a b x = [a, x, b] := by
  unfold mayS
  simp [List.mergeSort, List.MergeSort.Internal.splitInTwo, List.merge, List.splitAt, List.splitAt.go, Int.le_of_lt h, Int.le_of_lt h2, Int.le_of_lt (Int.lt_trans h h2), Int.not_le.mpr h2]
theorem g_S_lo (a b x : Int) (h : x < a) (h2 : a < b) : mayS a b x = [x, a, b] := by
  unfold mayS
  simp [List.mergeSort, List.MergeSort.Internal.splitInTwo, List.merge, List.splitAt, List.splitAt.go, Int.le_of_lt h, Int.le_of_lt h2, Int.not_le.mpr (Int.lt_trans h h2), Int.not_le.mpr h]
theorem g_may1 (n : Nat) (h3 : 3 ≤ n) (h6 : n ≤ 6) (s : ByteArray) (hs : s.size = (cTrips n).length) (D : List Bool) (d : Nat → Nat → Bool) (hI : gInv n s d) (hd : ∀ x y, x < y → y < n → D.getD (x * 6 + y) false = d x y) (a b : Nat) (hab : a < b) (hb : b < n) (x : Nat) (hx : x < n) :
    mayX (cTab n s) D (a : Int) (b : Int) x = !gX n s d a b x := by
  have h7 : n ≤ 7 := Nat.le_trans h6 (by decide)
  unfold mayX gX
  by_cases e1 : x = a
  · rw [if_pos (.inl e1), decide_eq_true (show (x : Int) = (a : Int) by rw [e1]), Bool.true_or]; rfl
  by_cases e2 : x = b
  · rw [if_pos (.inr e2), decide_eq_true (show (x : Int) = (b : Int) by rw [e2]), Bool.true_or, Bool.or_true]; rfl
  rw [if_neg (show ¬ (x = a ∨ x = b) from fun h => h.elim e1 e2), decide_eq_false (show ¬ (x : Int) = (a : Int) from fun h => e1 (Int.ofNat.inj h)), decide_eq_false (show ¬ (x : Int) = (b : Int) from fun h => e2 (Int.ofNat.inj h)), Bool.false_or, Bool.false_or]
  unfold may1
  by_cases h1 : x < a
  · have hcD : cD3 n x a b := ⟨hx, Nat.lt_trans hab hb, hb, e1, e2, Nat.ne_of_lt hab⟩
    rw [if_pos h1, g_S_lo _ _ _ (Int.ofNat_lt.mpr h1) (Int.ofNat_lt.mpr hab)]
    simp only [List.getD_cons_zero, List.getD_cons_succ]
    unfold mayPairs
    rw [c_tab_at n h3 h7 s x a b hcD]
    have hi := (hI x a b h1 hab hb).1
    rcases c_at_pm n s x a b with hp | hp
    · rw [hp] at hi ⊢
      rw [if_neg (by decide), g_scan_no _ _ _ _ _ _ (fun h => e1 h.1), g_scan_no _ _ _ _ _ _ (fun h => e1 h.1), g_scan_hit, hd x a h1 (Nat.lt_trans hab hb), hd x b (Nat.lt_trans h1 hab) hb]
      have hi' := hi (by decide)
      cases q1 : d x b <;> cases q2 : d x a <;> simp_all
    · rw [hp, if_pos (by decide), g_scan_hit]; rfl
  · have h1' : a < x := Nat.lt_of_le_of_ne (Nat.not_lt.mp h1) (fun h => e1 h.symm)
    rw [if_neg h1]
    by_cases h2 : x < b
    · have hcD : cD3 n a x b := ⟨Nat.lt_trans hab hb, hx, hb, fun h => e1 h.symm, Nat.ne_of_lt hab, e2⟩
      rw [if_pos h2, g_S_mid _ _ _ (Int.ofNat_lt.mpr h1') (Int.ofNat_lt.mpr h2)]
      simp only [List.getD_cons_zero, List.getD_cons_succ]
      unfold mayPairs
      rw [c_tab_at n h3 h7 s a x b hcD]
      rcases c_at_pm n s a x b with hp | hp
      · rw [hp, if_neg (by decide), if_pos (by decide), g_scan_no _ _ _ _ _ _ (fun h => e2 h.2), g_scan_hit, hd a x h1' hx]
        cases d a x <;> rfl
      · rw [hp, if_pos (by decide), if_neg (by decide), g_scan_no _ _ _ _ _ _ (fun h => e1 h.1), g_scan_hit, hd x b h2 hb]
        cases d x b <;> rfl
    · have h2' : b < x := Nat.lt_of_le_of_ne (Nat.not_lt.mp h2) (fun h => e2 h.symm)
      have hcD : cD3 n a b x := ⟨Nat.lt_trans hab hb, hb, hx, Nat.ne_of_lt hab, fun h => e1 h.symm, fun h => e2 h.symm⟩
      rw [if_neg h2, g_S_hi _ _ _ (Int.ofNat_lt.mpr hab) (Int.ofNat_lt.mpr h2')]
      simp only [List.getD_cons_zero, List.getD_cons_succ]
      unfold mayPairs
      rw [c_tab_at n h3 h7 s a b x hcD]
      have hi := (hI a b x hab h2' hx).2
      rcases c_at_pm n s a b x with hp | hp
      · rw [hp, if_neg (by decide), if_pos (by decide), g_scan_hit]; rfl
      · rw [hp] at hi ⊢
        rw [if_pos (by decide), if_neg (by decide), g_scan_no _ _ _ _ _ _ (fun h => Nat.ne_of_lt hab h.1.symm), g_scan_no _ _ _ _ _ _ (fun h => e2 h.2), g_scan_hit, hd b x h2' hx, hd a x h1' hx]
        have hi' := hi (by decide)
        cases q1 : d a x <;> cases q2 : d b x <;> simp_all
theorem g_mayAll (n : Nat) (h3 : 3 ≤ n) (h6 : n ≤ 6) (s : ByteArray) (hs : s.size = (cTrips n).length) (D : List Bool) (d : Nat → Nat → Bool) (hI : gInv n s d) (hd : ∀ x y, x < y → y < n → D.getD (x * 6 + y) false = d x y) (a b : Nat) (hab : a < b) (hb : b < n) :
    mayAll (cTab n s) D (a : Int) (b : Int) n = !(List.range n).any (gX n s d a b) := by
  unfold mayAll
  rw [List.not_any_eq_all_not]
  have : ∀ (l : List Nat), (∀ x ∈ l, x < n) → l.all (mayX (cTab n s) D (a : Int) (b : Int)) = l.all fun x => !gX n s d a b x := by
    intro l
    induction l with
    | nil => intro _; rfl
    | cons x l ih => intro hl; rw [List.all_cons, List.all_cons, ih (fun y hy => hl y (List.mem_cons_of_mem _ hy)), g_may1 n h3 h6 s hs D d hI hd a b hab hb x (hl x List.mem_cons_self)]
  exact this _ (fun x hx => List.mem_range.mp hx)
/-- One more pair is done. -/
def gSet (d : Nat → Nat → Bool) (a b : Nat) : Nat → Nat → Bool := fun x y => if x = a ∧ y = b then true else d x y
theorem g_inv_set (n : Nat) (s : ByteArray) (d : Nat → Nat → Bool) (hI : gInv n s d) (a b : Nat) (hab : a < b) (hb : b < n) (hmay : (List.range n).any (gX n s d a b) = false) : gInv n s (gSet d a b) := by
  have hno : ∀ x, x < n → gX n s d a b x = false := by
    intro x hx
    cases h : gX n s d a b x with
    | false => rfl
    | true => exact absurd hmay (by rw [List.any_eq_true.mpr ⟨x, List.mem_range.mpr hx, h⟩]; decide)
  intro x y z hxy hyz hz
  obtain ⟨i1, i2⟩ := hI x y z hxy hyz hz
  by_cases he : x = a ∧ z = b
  · obtain ⟨rfl, rfl⟩ := he
    have hg := hno y (Nat.lt_trans hyz hz)
    unfold gX at hg
    rw [if_neg (show ¬ (y = x ∨ y = z) from fun h => h.elim (fun h => Nat.ne_of_lt hxy h.symm) (Nat.ne_of_lt hyz)), if_neg (show ¬ y < x from Nat.lt_asymm hxy), if_pos hyz] at hg
    refine ⟨fun hp _ => ?_, fun hp _ => ?_⟩
    · rw [if_pos hp] at hg
      unfold gSet; split
      · rfl
      · cases q : d x y with
        | true => rfl
        | false => rw [q] at hg; exact absurd hg (by decide)
    · rw [if_neg hp] at hg
      unfold gSet; split
      · rfl
      · cases q : d y z with
        | true => rfl
        | false => rw [q] at hg; exact absurd hg (by decide)
  · have hz' : gSet d a b x z = d x z := if_neg he
    rw [hz']
    refine ⟨fun hp hq => ?_, fun hp hq => ?_⟩
    · have := i1 hp hq
      unfold gSet; split
      · rfl
      · exact this
    · have := i2 hp hq
      unfold gSet; split
      · rfl
      · exact this
