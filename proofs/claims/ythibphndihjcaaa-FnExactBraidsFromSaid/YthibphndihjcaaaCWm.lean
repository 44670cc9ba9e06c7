/- May a pair be exchanged? The program's answer is the reference's, as long as the pairs that are done fit the signs. Conditions: signs of at most six elements. -/
import Derived.Test.YthibphndihjcaaaCAre
import Derived.Test.YthibphndihjcaaaOWsg
import Derived.Test.YthibphndihjcaaaOWait
namespace Go.Proofs.Ythibphndihjcaaa.P
open Go.RowKit Go.Proofs.YthibphndihjcaaaW.PrintWords Go.Proofs.YthibphndihjcaaaW.PrintLast
set_option linter.unusedVariables false
set_option linter.unusedSimpArgs false

theorem g_ix_lt {n a b : Nat} (ha : a < n) (hb : b < n) : a * n + b < n * n := by
  calc a * n + b < a * n + n := by omega
    _ = (a + 1) * n := by rw [Nat.add_mul, Nat.one_mul]
    _ ≤ n * n := Nat.mul_le_mul_right n ha
theorem g_ix_small {n a b : Nat} (h6 : n ≤ 6) (ha : a < n) (hb : b < n) : a * n + b < 36 := Nat.lt_of_lt_of_le (g_ix_lt ha hb) (Nat.mul_le_mul h6 h6)
theorem g_ix_w (a n b : Nat) (h : a * n + b < 1000) : wrap64 (wrap64 ((a : Int) * (n : Int)) + (b : Int)) = ((a * n + b : Nat) : Int) := by
  have e : (a : Int) * (n : Int) = ((a * n : Nat) : Int) := by rw [Int.natCast_mul]
  rw [e]
  generalize a * n = q at *
  rw [c_wid (q : Int) (by omega) (by omega), c_wid _ (by omega) (by omega)]; omega
theorem g_wtB (i j x a b c : Nat) (h : i + j + x = a + b + c) (hs : i + j + x < 100) : wtB (i : Int) (j : Int) (x : Int) (a : Int) (c : Int) = (b : Int) := by
  unfold wtB
  rw [c_wid ((i : Int) + (j : Int)) (by omega) (by omega), c_wid ((i : Int) + (j : Int) + (x : Int)) (by omega) (by omega), c_wid ((i : Int) + (j : Int) + (x : Int) - (a : Int)) (by omega) (by omega), c_wid _ (by omega) (by omega)]
  omega
theorem g_rdB (l : List Bool) (q : Nat) : rdOf false l (q : Int) = l.getD q false := by unfold rdOf; rw [Int.toNat_natCast]
/-- What the reference asks of the third element. -/
def gW (n : Nat) (s : ByteArray) (Ds : List Bool) (i j x a b c : Nat) : Bool := wtD (i : Int) (j : Int) (x : Int) (decide (0 < cAt n s a b c)) (if 0 < cAt n s a b c then Ds.getD (a * n + b) false else Ds.getD (b * n + c) false) (Ds.getD (a * n + c) false)
theorem g_wait_core (n i j x y a b c P1 P2 P3 : Int) (s : ByteArray) (l : List Bool) (g0 : x < n) (g1 : ¬ x = i) (g2 : ¬ x = j) (hmin : spec_l1Min.f i x = some a) (hmax : spec_l1Max.f j x = some c) (hB : wtB i j x a c = b) (e1 : wtI n a b = P1) (e2 : wtI n b c = P2) (e3 : wtI n a c = P3)
    (f1 : 0 ≤ P1) (f2 : 0 ≤ P2) (f3 : 0 ≤ P3) (k1 : P1 < (l.length : Int)) (k2 : P2 < (l.length : Int)) (k3 : P3 < (l.length : Int)) (hw : wrap64 (x + 1) = y) (k : Nat) :
    spec_l13Waits.l0 (k + 1) n s l i j x = (spec_l3At.f k n s a b c).bind fun t => if wtD i j x (decide (0 < t)) (if decide (0 < t) = true then rdOf false l P1 else rdOf false l P2) (rdOf false l P3) = true then some true else spec_l13Waits.l0 k n s l i j y := by
  rw [spec_l13Waits.l0, if_pos g0, if_neg g1, if_neg g2, hmin, hmax, Option.bind_some, Option.bind_some, hB, e1, e3, hw]
  congr 1
  funext t
  rw [if_pos f1, if_pos k1]
  unfold wtF
  rw [e1, e2, if_pos f2, if_pos k2]
  cases hd : decide (0 < t) with
  | true => rw [if_pos rfl, if_pos rfl, Option.bind_some, if_pos f3, if_pos k3]
  | false => rw [if_neg Bool.false_ne_true, if_neg Bool.false_ne_true, Option.bind_some, if_pos f3, if_pos k3]
theorem g_wait_gen (n : Nat) (h3 : 3 ≤ n) (h6 : n ≤ 6) (s : ByteArray) (hs : s.size = (cTrips n).length) (Ds : List Bool) (hDs : Ds.length = n * n) (i j x a b c : Nat) (hmin : spec_l1Min.f (i : Int) (x : Int) = some (a : Int)) (hmax : spec_l1Max.f (j : Int) (x : Int) = some (c : Int)) (hsum : i + j + x = a + b + c) (hD : cD3 n a b c) (hx : x < n) (hi : i < n) (hj : j < n) (hxi : x ≠ i) (hxj : x ≠ j) (rest : Bool)
    (hnext : Ev (fun k => spec_l13Waits.l0 k (n : Int) s Ds (i : Int) (j : Int) ((x + 1 : Nat) : Int)) rest) :
    Ev (fun k => spec_l13Waits.l0 k (n : Int) s Ds (i : Int) (j : Int) (x : Int)) (gW n s Ds i j x a b c || rest) := by
  have hat := c_specAt n h3 (by omega) s hs a b c hD
  have g0 : (x : Int) < (n : Int) := Int.ofNat_lt.mpr hx
  have g1 : ¬ (x : Int) = (i : Int) := fun h => hxi (Int.ofNat.inj h)
  have g2 : ¬ (x : Int) = (j : Int) := fun h => hxj (Int.ofNat.inj h)
  have hs100 : i + j + x < 100 := by clear hDs hmin hmax hat hnext hs hsum; omega
  have hx4 : x < 4611686018427387904 := by clear hDs hmin hmax hat hnext hs hsum; omega
  have hB := g_wtB i j x a b c hsum hs100
  have GW := c_w1 x hx4
  obtain ⟨ha, hb, hc, _, _, _⟩ := hD
  have l1 := g_ix_lt ha hb
  have l2 := g_ix_lt hb hc
  have l3 := g_ix_lt ha hc
  rw [← hDs] at l1 l2 l3
  have e1 : wtI (n : Int) (a : Int) (b : Int) = ((a * n + b : Nat) : Int) := g_ix_w a n b (Nat.lt_trans (g_ix_small h6 ha hb) (by decide))
  have e2 : wtI (n : Int) (b : Int) (c : Int) = ((b * n + c : Nat) : Int) := g_ix_w b n c (Nat.lt_trans (g_ix_small h6 hb hc) (by decide))
  have e3 : wtI (n : Int) (a : Int) (c : Int) = ((a * n + c : Nat) : Int) := g_ix_w a n c (Nat.lt_trans (g_ix_small h6 ha hc) (by decide))
  have CO := g_wait_core (n : Int) (i : Int) (j : Int) (x : Int) ((x + 1 : Nat) : Int) (a : Int) (b : Int) (c : Int) _ _ _ s Ds g0 g1 g2 hmin hmax hB e1 e2 e3 (Int.natCast_nonneg _) (Int.natCast_nonneg _) (Int.natCast_nonneg _) (Int.ofNat_lt.mpr l1) (Int.ofNat_lt.mpr l2) (Int.ofNat_lt.mpr l3) GW
  rw [g_rdB, g_rdB, g_rdB] at CO
  refine Ev.step (fun k => CO k) (Ev.bind hat ?_)
  unfold gW
  by_cases hp : 0 < cAt n s a b c
  · rw [decide_eq_true hp, if_pos rfl, if_pos hp]
    cases hd : wtD (i : Int) (j : Int) (x : Int) true (Ds.getD (a * n + b) false) (Ds.getD (a * n + c) false) with
    | true => rw [Bool.true_or]; exact Ev.now _
    | false => rw [Bool.false_or]; exact hnext
  · rw [decide_eq_false hp, if_neg Bool.false_ne_true, if_neg hp]
    cases hd : wtD (i : Int) (j : Int) (x : Int) false (Ds.getD (b * n + c) false) (Ds.getD (a * n + c) false) with
    | true => rw [Bool.true_or]; exact Ev.now _
    | false => rw [Bool.false_or]; exact hnext
/-- Does the pair wait for x? -/
def gX (n : Nat) (s : ByteArray) (d : Nat → Nat → Bool) (i j x : Nat) : Bool :=
  if x = i ∨ x = j then false else if x < i then (decide (0 < cAt n s x i j) && !d x j) else if x < j then (if 0 < cAt n s i x j then !d i x else !d x j) else (if 0 < cAt n s i j x then false else !d i x)
theorem g_min (i x : Nat) : spec_l1Min.f (i : Int) (x : Int) = some ((if i < x then i else x : Nat) : Int) := by
  unfold spec_l1Min.f
  by_cases h : i < x
  · rw [if_pos (by omega), if_pos h]
  · rw [if_neg (by omega), if_neg h]
theorem g_max (i x : Nat) : spec_l1Max.f (i : Int) (x : Int) = some ((if x < i then i else x : Nat) : Int) := by
  unfold spec_l1Max.f
  by_cases h : x < i
  · rw [if_pos (by omega), if_pos h]
  · rw [if_neg (by omega), if_neg h]
theorem g_specWaits_l (n : Nat) (h3 : 3 ≤ n) (h6 : n ≤ 6) (s : ByteArray) (hs : s.size = (cTrips n).length) (Ds : List Bool) (hDs : Ds.length = n * n) (d : Nat → Nat → Bool) (hd : ∀ x y, x < y → y < n → Ds.getD (x * n + y) false = d x y) (i j : Nat) (hij : i < j) (hj : j < n) : ∀ (e x : Nat), x + e = n →
    Ev (fun k => spec_l13Waits.l0 k (n : Int) s Ds (i : Int) (j : Int) (x : Int)) ((List.range' x e).any (gX n s d i j)) := by
  intro e
  induction e with
  | zero =>
    intro x hx
    refine Ev.step (f := fun _ => some false) (fun k => ?_) (Ev.now _)
    simp only [spec_l13Waits.l0]; rw [if_neg (by omega)]
  | succ e ih =>
    intro x hx
    have hn := ih (x + 1) (by omega)
    rw [List.range'_succ, List.any_cons]
    by_cases h1 : x = i
    · have : gX n s d i j x = false := by unfold gX; rw [if_pos (.inl h1)]
      rw [this, Bool.false_or]
      refine Ev.step (fun k => ?_) hn
      simp only [spec_l13Waits.l0]
      rw [if_pos (by omega), if_pos (by omega), c_w1 x (by omega)]
    · by_cases h2 : x = j
      · have : gX n s d i j x = false := by unfold gX; rw [if_pos (.inr h2)]
        rw [this, Bool.false_or]
        refine Ev.step (fun k => ?_) hn
        simp only [spec_l13Waits.l0]
        rw [if_pos (by omega), if_neg (by omega), if_pos (by omega), c_w1 x (by omega)]
      · have h12 : ¬ (x = i ∨ x = j) := fun h => h.elim h1 h2
        rcases Nat.lt_trichotomy x i with hlt | heq | hgt
        · have hm := g_min i x
          have hM := g_max j x
          rw [if_neg (by omega)] at hm
          rw [if_pos (by omega)] at hM
          have := g_wait_gen n h3 h6 s hs Ds hDs i j x x i j hm hM (by omega) ⟨by omega, by omega, hj, by omega, by omega, by omega⟩ (by omega) (by omega) hj h1 h2 _ hn
          have e1 : gW n s Ds i j x x i j = gX n s d i j x := by
            unfold gW gX wtD
            rw [if_neg h12, if_pos hlt, if_neg (show ¬ (i : Int) < (x : Int) by omega), hd x j (by omega) hj]
            have : decide ((x : Int) < (i : Int)) = true := decide_eq_true (by omega)
            rw [this]
            by_cases hp : 0 < cAt n s x i j
            · simp [hp]
            · simp [hp]
          rw [e1] at this; exact this
        · exact absurd heq h1
        · by_cases hxj : x < j
          · have hm := g_min i x
            have hM := g_max j x
            rw [if_pos (by omega)] at hm
            rw [if_pos (by omega)] at hM
            have := g_wait_gen n h3 h6 s hs Ds hDs i j x i x j hm hM (by omega) ⟨by omega, by omega, hj, by omega, by omega, by omega⟩ (by omega) (by omega) hj h1 h2 _ hn
            have e1 : gW n s Ds i j x i x j = gX n s d i j x := by
              unfold gW gX wtD
              rw [if_neg h12, if_neg (show ¬ x < i by omega), if_pos hxj, if_pos (show (i : Int) < (x : Int) by omega), if_pos (show (x : Int) < (j : Int) by omega), hd i x (by omega) (by omega), hd x j (by omega) hj]
              by_cases hp : 0 < cAt n s i x j
              · rw [if_pos hp, if_pos hp]
              · rw [if_neg hp, if_neg hp]
            rw [e1] at this; exact this
          · have hm := g_min i x
            have hM := g_max j x
            rw [if_pos (by omega)] at hm
            rw [if_neg (by omega)] at hM
            have := g_wait_gen n h3 h6 s hs Ds hDs i j x i j x hm hM (by omega) ⟨by omega, by omega, by omega, by omega, by omega, by omega⟩ (by omega) (by omega) hj h1 h2 _ hn
            have e1 : gW n s Ds i j x i j x = gX n s d i j x := by
              unfold gW gX wtD
              rw [if_neg h12, if_neg (show ¬ x < i by omega), if_neg hxj, if_pos (show (i : Int) < (x : Int) by omega), if_neg (show ¬ (x : Int) < (j : Int) by omega), hd i x (by omega) (by omega)]
              by_cases hp : 0 < cAt n s i j x
              · simp [hp]
              · simp [hp]
            rw [e1] at this; exact this
theorem g_specWaits (n : Nat) (h3 : 3 ≤ n) (h6 : n ≤ 6) (s : ByteArray) (hs : s.size = (cTrips n).length) (Ds : List Bool) (hDs : Ds.length = n * n) (d : Nat → Nat → Bool) (hd : ∀ x y, x < y → y < n → Ds.getD (x * n + y) false = d x y) (i j : Nat) (hij : i < j) (hj : j < n) :
    Ev (fun k => spec_l13Waits.f k (n : Int) s Ds (i : Int) (j : Int)) ((List.range n).any (gX n s d i j)) := by
  have := g_specWaits_l n h3 h6 s hs Ds hDs d hd i j hij hj n 0 (by omega)
  rw [List.range_eq_range']
  exact this

end Go.Proofs.Ythibphndihjcaaa.P
namespace Go.Proofs.Ythibphndihjcaaa.P
open Go.RowKit Go.Proofs.YthibphndihjcaaaW.PrintWords Go.Proofs.YthibphndihjcaaaW.PrintLast
set_option linter.unusedVariables false
set_option linter.unusedSimpArgs false

/-- The pairs that are done fit the signs. -/
def gInv (n : Nat) (s : ByteArray) (d : Nat → Nat → Bool) : Prop := ∀ x y z, x < y → y < z → z < n → (0 < cAt n s x y z → d x z = true → d x y = true) ∧ (¬ 0 < cAt n s x y z → d x z = true → d y z = true)
theorem g_scan_hit (D : List Bool) (a b : Int) (r : List (Int × Int)) : mayScan D a b ((a, b) :: r) = true := by simp [mayScan]
theorem g_scan_no (D : List Bool) (a b : Nat) (y z : Nat) (r : List (Int × Int)) (h : ¬ (y = a ∧ z = b)) : mayScan D (a : Int) (b : Int) (((y : Int), (z : Int)) :: r) = (D.getD (y * 6 + z) false && mayScan D (a : Int) (b : Int) r) := by
  rw [mayScan, if_neg (fun h' : ((y : Int) = (a : Int) ∧ (z : Int) = (b : Int)) => h ⟨Int.ofNat.inj h'.1, Int.ofNat.inj h'.2⟩)]
  simp only [Int.toNat_natCast]
  by_cases hh : D.getD (y * 6 + z) false = true
  · rw [if_pos hh, hh, Bool.true_and]
  · rw [if_neg hh, Bool.eq_false_iff.mpr hh, Bool.false_and]
theorem g_S_hi (a b x : Int) (h : a < b) (h2 : b < x) : mayS a b x = [a, b, x] := by
  unfold mayS
  simp [List.mergeSort, List.MergeSort.Internal.splitInTwo, List.merge, List.splitAt, List.splitAt.go, Int.le_of_lt h, Int.le_of_lt h2, Int.le_of_lt (Int.lt_trans h h2)]
theorem g_S_mid (a b x : Int) (h : a < x) (h2 : x < b) : mayS a b x = [a, x, b] := by
  unfold mayS
  simp [List.mergeSort, List.MergeSort.Internal.splitInTwo, List.merge, List.splitAt, List.splitAt.go, Int.le_of_lt h, Int.le_of_lt h2, Int.le_of_lt (Int.lt_trans h h2), Int.not_le.mpr h2]
theorem g_S_lo (a b x : Int) (h : x < a) (h2 : a < b) : mayS a b x = [x, a, b] := by
  unfold mayS
  simp [List.mergeSort, List.MergeSort.Internal.splitInTwo, List.merge, List.splitAt, List.splitAt.go, Int.le_of_lt h, Int.le_of_lt h2, Int.not_le.mpr (Int.lt_trans h h2), Int.not_le.mpr h]
theorem g_may1 (n : Nat) (h3 : 3 ≤ n) (h6 : n ≤ 6) (s : ByteArray) (hs : s.size = (cTrips n).length) (D : List Bool) (d : Nat → Nat → Bool) (hI : gInv n s d) (hd : ∀ x y, x < y → y < n → D.getD (x * 6 + y) false = d x y) (a b : Nat) (hab : a < b) (hb : b < n) (x : Nat) (hx : x < n) :
    mayX (cTab n s) D (a : Int) (b : Int) x = !gX n s d a b x := by
  have h7 : n ≤ 7 := Nat.le_trans h6 (by decide)
  unfold mayX gX
  by_cases e1 : x = a
  · rw [if_pos (.inl e1), decide_eq_true (show (x : Int) = (a : Int) by rw [e1]), Bool.true_or]; rfl
  by_cases e2 : x = b
  · rw [if_pos (.inr e2), decide_eq_true (show (x : Int) = (b : Int) by rw [e2]), Bool.true_or, Bool.or_true]; rfl
  rw [if_neg (show ¬ (x = a ∨ x = b) from fun h => h.elim e1 e2), decide_eq_false (show ¬ (x : Int) = (a : Int) from fun h => e1 (Int.ofNat.inj h)), decide_eq_false (show ¬ (x : Int) = (b : Int) from fun h => e2 (Int.ofNat.inj h)), Bool.false_or, Bool.false_or]
  unfold may1
  by_cases h1 : x < a
  · have hcD : cD3 n x a b := ⟨hx, Nat.lt_trans hab hb, hb, e1, e2, Nat.ne_of_lt hab⟩
    rw [if_pos h1, g_S_lo _ _ _ (Int.ofNat_lt.mpr h1) (Int.ofNat_lt.mpr hab)]
    simp only [List.getD_cons_zero, List.getD_cons_succ]
    unfold mayPairs
    rw [c_tab_at n h3 h7 s x a b hcD]
    have hi := (hI x a b h1 hab hb).1
    rcases c_at_pm n s x a b with hp | hp
    · rw [hp] at hi ⊢
      rw [if_neg (by decide), g_scan_no _ _ _ _ _ _ (fun h => e1 h.1), g_scan_no _ _ _ _ _ _ (fun h => e1 h.1), g_scan_hit, hd x a h1 (Nat.lt_trans hab hb), hd x b (Nat.lt_trans h1 hab) hb]
      have hi' := hi (by decide)
      cases q1 : d x b <;> cases q2 : d x a <;> simp_all
    · rw [hp, if_pos (by decide), g_scan_hit]; rfl
  · have h1' : a < x := Nat.lt_of_le_of_ne (Nat.not_lt.mp h1) (fun h => e1 h.symm)
    rw [if_neg h1]
    by_cases h2 : x < b
    · have hcD : cD3 n a x b := ⟨Nat.lt_trans hab hb, hx, hb, fun h => e1 h.symm, Nat.ne_of_lt hab, e2⟩
      rw [if_pos h2, g_S_mid _ _ _ (Int.ofNat_lt.mpr h1') (Int.ofNat_lt.mpr h2)]
      simp only [List.getD_cons_zero, List.getD_cons_succ]
      unfold mayPairs
      rw [c_tab_at n h3 h7 s a x b hcD]
      rcases c_at_pm n s a x b with hp | hp
      · rw [hp, if_neg (by decide), if_pos (by decide), g_scan_no _ _ _ _ _ _ (fun h => e2 h.2), g_scan_hit, hd a x h1' hx]
        cases d a x <;> rfl
      · rw [hp, if_pos (by decide), if_neg (by decide), g_scan_no _ _ _ _ _ _ (fun h => e1 h.1), g_scan_hit, hd x b h2 hb]
        cases d x b <;> rfl
    · have h2' : b < x := Nat.lt_of_le_of_ne (Nat.not_lt.mp h2) (fun h => e2 h.symm)
      have hcD : cD3 n a b x := ⟨Nat.lt_trans hab hb, hb, hx, Nat.ne_of_lt hab, fun h => e1 h.symm, fun h => e2 h.symm⟩
      rw [if_neg h2, g_S_hi _ _ _ (Int.ofNat_lt.mpr hab) (Int.ofNat_lt.mpr h2')]
      simp only [List.getD_cons_zero, List.getD_cons_succ]
      unfold mayPairs
      rw [c_tab_at n h3 h7 s a b x hcD]
      have hi := (hI a b x hab h2' hx).2
      rcases c_at_pm n s a b x with hp | hp
      · rw [hp, if_neg (by decide), if_pos (by decide), g_scan_hit]; rfl
      · rw [hp] at hi ⊢
        rw [if_pos (by decide), if_neg (by decide), g_scan_no _ _ _ _ _ _ (fun h => Nat.ne_of_lt hab h.1.symm), g_scan_no _ _ _ _ _ _ (fun h => e2 h.2), g_scan_hit, hd b x h2' hx, hd a x h1' hx]
        have hi' := hi (by decide)
        cases q1 : d a x <;> cases q2 : d b x <;> simp_all
theorem g_mayAll (n : Nat) (h3 : 3 ≤ n) (h6 : n ≤ 6) (s : ByteArray) (hs : s.size = (cTrips n).length) (D : List Bool) (d : Nat → Nat → Bool) (hI : gInv n s d) (hd : ∀ x y, x < y → y < n → D.getD (x * 6 + y) false = d x y) (a b : Nat) (hab : a < b) (hb : b < n) :
    mayAll (cTab n s) D (a : Int) (b : Int) n = !(List.range n).any (gX n s d a b) := by
  unfold mayAll
  rw [List.not_any_eq_all_not]
  have : ∀ (l : List Nat), (∀ x ∈ l, x < n) → l.all (mayX (cTab n s) D (a : Int) (b : Int)) = l.all fun x => !gX n s d a b x := by
    intro l
    induction l with
    | nil => intro _; rfl
    | cons x l ih => intro hl; rw [List.all_cons, List.all_cons, ih (fun y hy => hl y (List.mem_cons_of_mem _ hy)), g_may1 n h3 h6 s hs D d hI hd a b hab hb x (hl x List.mem_cons_self)]
  exact this _ (fun x hx => List.mem_range.mp hx)
/-- One more pair is done. -/
def gSet (d : Nat → Nat → Bool) (a b : Nat) : Nat → Nat → Bool := fun x y => if x = a ∧ y = b then true else d x y
theorem g_inv_set (n : Nat) (s : ByteArray) (d : Nat → Nat → Bool) (hI : gInv n s d) (a b : Nat) (hab : a < b) (hb : b < n) (hmay : (List.range n).any (gX n s d a b) = false) : gInv n s (gSet d a b) := by
  have hno : ∀ x, x < n → gX n s d a b x = false := by
    intro x hx
    cases h : gX n s d a b x with
    | false => rfl
    | true => exact absurd hmay (by rw [List.any_eq_true.mpr ⟨x, List.mem_range.mpr hx, h⟩]; decide)
  intro x y z hxy hyz hz
  obtain ⟨i1, i2⟩ := hI x y z hxy hyz hz
  by_cases he : x = a ∧ z = b
  · obtain ⟨rfl, rfl⟩ := he
    have hg := hno y (Nat.lt_trans hyz hz)
    unfold gX at hg
    rw [if_neg (show ¬ (y = x ∨ y = z) from fun h => h.elim (fun h => Nat.ne_of_lt hxy h.symm) (Nat.ne_of_lt hyz)), if_neg (show ¬ y < x from Nat.lt_asymm hxy), if_pos hyz] at hg
    refine ⟨fun hp _ => ?_, fun hp _ => ?_⟩
    · rw [if_pos hp] at hg
      unfold gSet; split
      · rfl
      · cases q : d x y with
        | true => rfl
        | false => rw [q] at hg; exact absurd hg (by decide)
    · rw [if_neg hp] at hg
      unfold gSet; split
      · rfl
      · cases q : d y z with
        | true => rfl
        | false => rw [q] at hg; exact absurd hg (by decide)
  · have hz' : gSet d a b x z = d x z := if_neg he
    rw [hz']
    refine ⟨fun hp hq => ?_, fun hp hq => ?_⟩
    · have := i1 hp hq
      unfold gSet; split
      · rfl
      · exact this
    · have := i2 hp hq
      unfold gSet; split
      · rfl
      · exact this
