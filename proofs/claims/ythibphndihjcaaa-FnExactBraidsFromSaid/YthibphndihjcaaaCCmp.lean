/- slices.Compare, slices.Equal and the reference's own test tell the lexicographic order. Conditions: lists of fewer than 2^40 numbers. -/
import Derived.Test.YthibphndihjcaaaWAll2
import Derived.Test.YthibphndihjcaaaCNum
import Derived.Test.YthibphndihjcaaaP73
namespace Go.Proofs.Ythibphndihjcaaa.P
set_option linter.unusedVariables false

/-- Lexicographically less. -/
def lx : List Int → List Int → Bool
  | [], [] => false
  | [], _ :: _ => true
  | _ :: _, [] => false
  | a :: ar, b :: br => if a < b then true else if b < a then false else lx ar br
theorem lx_irr : ∀ a, lx a a = false
  | [] => rfl
  | a :: ar => by
    have h : ¬ a < a := Int.lt_irrefl a
    rw [lx, if_neg h, if_neg h]; exact lx_irr ar
theorem lx_tot : ∀ a b, lx a b = false → lx b a = false → a = b
  | [], [], _, _ => rfl
  | [], _ :: _, h, _ => by simp [lx] at h
  | _ :: _, [], _, h => by simp [lx] at h
  | a :: ar, b :: br, h1, h2 => by
    rw [lx] at h1 h2
    by_cases h : a < b
    · rw [if_pos h] at h1; cases h1
    · rw [if_neg h] at h1
      by_cases h' : b < a
      · rw [if_pos h'] at h2; cases h2
      · rw [if_neg h'] at h1
        rw [if_neg h', if_neg h] at h2
        have e : a = b := by omega
        rw [e, lx_tot ar br h1 h2]
theorem lx_trans : ∀ a b c, lx a b = true → lx b c = true → lx a c = true
  | [], [], _, h, _ => by simp [lx] at h
  | [], _ :: _, [], _, h => by simp [lx] at h
  | [], _ :: _, _ :: _, _, _ => rfl
  | _ :: _, [], _, h, _ => by simp [lx] at h
  | _ :: _, _ :: _, [], _, h => by simp [lx] at h
  | a :: ar, b :: br, c :: cr, h1, h2 => by
    rw [lx] at h1 h2 ⊢
    by_cases h : a < b
    · by_cases h' : c < b
      · rw [if_neg (by omega), if_pos h'] at h2; cases h2
      · rw [if_pos (by omega)]
    · rw [if_neg h] at h1
      by_cases h' : b < a
      · rw [if_pos h'] at h1; cases h1
      · rw [if_neg h'] at h1
        by_cases h3 : b < c
        · rw [if_pos (by omega)]
        · rw [if_neg h3] at h2
          by_cases h4 : c < b
          · rw [if_pos h4] at h2; cases h2
          · rw [if_neg h4] at h2
            rw [if_neg (by omega), if_neg (by omega)]
            exact lx_trans ar br cr h1 h2
theorem lx_asym (a b : List Int) (h : lx a b = true) : lx b a = false := by
  cases q : lx b a with
  | false => rfl
  | true => have := lx_trans a b a h q; rw [lx_irr] at this; cases this
theorem lx_ntrans (a b c : List Int) (h1 : lx a b = false) (h2 : lx b c = false) : lx a c = false := by
  cases q : lx a c with
  | false => rfl
  | true =>
    cases q2 : lx b a with
    | true => rw [lx_trans b a c q2 q] at h2; cases h2
    | false => rw [lx_tot a b h1 q2] at q; rw [q] at h2; cases h2
/-- In order: none is less than one ahead of it. -/
def lxLe (a b : List Int) : Prop := lx b a = false
theorem lx_one (l m : List (List Int)) (h1 : l.Pairwise lxLe) (h2 : m.Pairwise lxLe) (h : l.Perm m) : l = m :=
  h.eq_of_pairwise (fun a b _ _ ha hb => lx_tot a b hb ha) h1 h2
/-- Where a list is put: behind the last one that is not greater. -/
def lpos (l : List (List Int)) (x : List Int) : Nat → Nat
  | 0 => 0
  | m + 1 => if lx x (l.getD m []) = true then lpos l x m else m + 1
def lput (l : List (List Int)) (x : List Int) : List (List Int) := l.take (lpos l x l.length) ++ x :: l.drop (lpos l x l.length)
theorem lpos_le (l : List (List Int)) (x : List Int) : ∀ m, lpos l x m ≤ m
  | 0 => Nat.le_refl _
  | m + 1 => by
    unfold lpos
    by_cases h : lx x (l.getD m []) = true
    · rw [if_pos h]; exact Nat.le_succ_of_le (lpos_le l x m)
    · rw [if_neg h]; exact Nat.le_refl _
theorem lpos_hi (l : List (List Int)) (x : List Int) : ∀ m i, lpos l x m ≤ i → i < m → lx x (l.getD i []) = true
  | 0, i, _, h => by omega
  | m + 1, i, h1, h2 => by
    unfold lpos at h1
    by_cases h : lx x (l.getD m []) = true
    · rw [if_pos h] at h1
      by_cases e : i = m
      · rw [e]; exact h
      · exact lpos_hi l x m i h1 (by omega)
    · rw [if_neg h] at h1; omega
theorem lpos_lo (l : List (List Int)) (x : List Int) : ∀ m, lpos l x m = 0 ∨ lx x (l.getD (lpos l x m - 1) []) = false
  | 0 => .inl rfl
  | m + 1 => by
    unfold lpos
    by_cases h : lx x (l.getD m []) = true
    · rw [if_pos h]; exact lpos_lo l x m
    · rw [if_neg h]; exact .inr (by cases q : lx x (l.getD m []) with | false => exact q | true => exact absurd q h)
theorem lput_perm (l : List (List Int)) (x : List Int) : (lput l x).Perm (x :: l) := by
  unfold lput
  refine List.perm_middle.trans ?_
  rw [List.take_append_drop]
theorem lx_getD (l : List (List Int)) (i : Nat) (h : i < l.length) : l.getD i [] = l[i] := by rw [List.getD_eq_getElem?_getD, List.getElem?_eq_getElem h]; rfl
theorem lput_sorted (l : List (List Int)) (x : List Int) (h : l.Pairwise lxLe) : (lput l x).Pairwise lxLe := by
  have hle := lpos_le l x l.length
  have hhi := lpos_hi l x l.length
  have hlo := lpos_lo l x l.length
  unfold lput
  generalize lpos l x l.length = p at hle hhi hlo ⊢
  have hpw := List.pairwise_iff_getElem.mp h
  have hlow : ∀ i, i < p → lx x (l.getD i []) = false := by
    intro i hi
    rcases hlo with h0 | h0
    · omega
    · by_cases e : i = p - 1
      · rw [e]; exact h0
      · refine lx_ntrans x (l.getD (p - 1) []) _ h0 ?_
        rw [lx_getD l _ (by omega), lx_getD l i (by omega)]
        exact hpw i (p - 1) (by omega) (by omega) (by omega)
  have hmid : ∀ a ∈ l.take p, ∀ b ∈ l.drop p, lxLe a b := by
    have := List.pairwise_append.mp (show (l.take p ++ l.drop p).Pairwise lxLe by rw [List.take_append_drop]; exact h)
    exact this.2.2
  refine List.pairwise_append.mpr ⟨h.sublist (List.take_sublist _ _), List.pairwise_cons.mpr ⟨fun b hb => ?_, h.sublist (List.drop_sublist _ _)⟩, fun a ha b hb => ?_⟩
  · obtain ⟨i, hi, rfl⟩ := List.mem_iff_getElem.mp hb
    rw [List.length_drop] at hi
    rw [List.getElem_drop]
    have := hhi (p + i) (by omega) (by omega)
    rw [lx_getD l _ (by omega)] at this
    exact lx_asym _ _ this
  · rcases List.mem_cons.mp hb with rfl | hb
    · obtain ⟨i, hi, rfl⟩ := List.mem_iff_getElem.mp ha
      rw [List.length_take] at hi
      rw [List.getElem_take]
      have := hlow i (by omega)
      rw [lx_getD l _ (by omega)] at this
      exact this
    · exact hmid a ha b hb
/-- Put one after the other. -/
def lsrt (rows : List (List Int)) : List (List Int) := rows.foldl lput []
theorem lfold (rows : List (List Int)) : ∀ l : List (List Int), l.Pairwise lxLe → (rows.foldl lput l).Pairwise lxLe ∧ (rows.foldl lput l).Perm (l ++ rows) := by
  induction rows with
  | nil => intro l h; rw [List.append_nil]; exact ⟨h, List.Perm.refl _⟩
  | cons x rows ih =>
    intro l h
    obtain ⟨h1, h2⟩ := ih (lput l x) (lput_sorted l x h)
    refine ⟨h1, h2.trans ?_⟩
    refine ((lput_perm l x).append_right rows).trans ?_
    rw [List.cons_append]
    exact List.perm_middle.symm
theorem lsrt_perm (rows : List (List Int)) : (lsrt rows).Perm rows := (lfold rows [] List.Pairwise.nil).2
theorem lsrt_sorted (rows : List (List Int)) : (lsrt rows).Pairwise lxLe := (lfold rows [] List.Pairwise.nil).1
theorem lsrt_one (rows l : List (List Int)) (h : l.Pairwise lxLe) (hp : l.Perm rows) : l = lsrt rows := lx_one l _ h (lsrt_sorted rows) (hp.trans (lsrt_perm rows).symm)
theorem lsrt_len (rows : List (List Int)) : (lsrt rows).length = rows.length := (lsrt_perm rows).length_eq

end Go.Proofs.Ythibphndihjcaaa.P
namespace Go.Proofs.Ythibphndihjcaaa.P
open Go.RowKit Go.Proofs.YthibphndihjcaaaW.PrintWords Go.Proofs.YthibphndihjcaaaW.PrintLast
set_option linter.unusedVariables false
set_option linter.unusedSimpArgs false

def cmpL (a b : List Int) : Int := if lx a b = true then -1 else if lx b a = true then 1 else 0
theorem cmpL_cons (x y : Int) (a b : List Int) : cmpL (x :: a) (y :: b) = if x < y then -1 else if y < x then 1 else cmpL a b := by
  unfold cmpL
  rw [lx, lx]
  by_cases h : x < y
  · simp [h]
  · by_cases h' : y < x
    · simp [h, h']
    · simp [h, h']
theorem cmpL_neg (a b : List Int) : decide (cmpL a b < 0) = lx a b := by
  unfold cmpL
  cases h : lx a b with
  | true => rfl
  | false => rw [if_neg (by simp)]; split <;> rfl
theorem cmp_int (x y : Int) : cmp_Compare_int.f x y = some (if x < y then -1 else if y < x then 1 else 0) := by
  unfold cmp_Compare_int.f cmp_isNaN_int.f
  simp only [bne_self_eq_false, Option.bind_some, Bool.false_eq_true, if_false, gt_iff_lt]
  by_cases h : x < y
  · rw [if_pos h, if_pos h]
  · rw [if_neg h, if_neg h]
    by_cases h' : y < x
    · rw [if_pos h', if_pos h']
    · rw [if_neg h', if_neg h']
theorem rd_at (a : List Int) (i : Nat) (h : i < a.length) : rd a (i : Int) = a[i] := by unfold rd; rw [Int.toNat_natCast, List.getD_eq_getElem?_getD, List.getElem?_eq_getElem h]; rfl
theorem w_next (i : Nat) (h : i < 1099511627776) : wrap64 ((i : Int) + 1) = ((i + 1 : Nat) : Int) := by rw [c_wid _ (by omega) (by omega)]; omega
theorem cmp_rows_l (a b : List Int) (ha : a.length < 1099511627776) (hb : b.length < 1099511627776) : ∀ (d i : Nat), i + d = a.length → i ≤ b.length → Ev (fun k => slices_Compare_int_int.l0 k a b a (a.length : Int) (i : Int)) (cmpL (a.drop i) (b.drop i)) := by
  intro d
  induction d with
  | zero =>
    intro i hi hb2
    have e1 : a.drop i = [] := List.drop_eq_nil_of_le (by omega)
    refine Ev.step (f := fun _ => some (cmpL (a.drop i) (b.drop i))) (fun k => ?_) (Ev.now _)
    simp only [slices_Compare_int_int.l0]
    rw [if_neg (by omega), e1]
    by_cases h : (a.length : Int) < (b.length : Int)
    · rw [if_pos h]
      rw [List.drop_eq_getElem_cons (show i < b.length by omega)]
      rfl
    · rw [if_neg h, List.drop_eq_nil_of_le (show b.length ≤ i by omega)]
      rfl
  | succ d ih =>
    intro i hi hb2
    have hia : i < a.length := by omega
    rw [List.drop_eq_getElem_cons hia]
    by_cases hib : i < b.length
    · rw [List.drop_eq_getElem_cons hib, cmpL_cons]
      have hnext := ih (i + 1) (by omega) (by omega)
      have hstep : ∀ k, slices_Compare_int_int.l0 (k + 1) a b a (a.length : Int) (i : Int) = if (if a[i] < b[i] then (-1 : Int) else if b[i] < a[i] then 1 else 0) = 0 then slices_Compare_int_int.l0 k a b a (a.length : Int) ((i + 1 : Nat) : Int) else some (if a[i] < b[i] then (-1 : Int) else if b[i] < a[i] then 1 else 0) := by
        intro k
        rw [slices_Compare_int_int.l0, if_pos (by omega), if_pos (by omega), if_pos (by omega), if_neg (by omega), if_pos (by omega), rd_at a i hia, rd_at b i hib, cmp_int, Option.bind_some, w_next i (by omega)]
      by_cases h1 : a[i] < b[i]
      · rw [if_pos h1]
        refine Ev.step (f := fun _ => some (-1)) (fun k => ?_) (Ev.now _)
        rw [hstep, if_pos h1, if_neg (by decide)]
      · rw [if_neg h1]
        by_cases h2 : b[i] < a[i]
        · rw [if_pos h2]
          refine Ev.step (f := fun _ => some 1) (fun k => ?_) (Ev.now _)
          rw [hstep, if_neg h1, if_pos h2, if_neg (by decide)]
        · rw [if_neg h2]
          refine Ev.step (f := fun k => slices_Compare_int_int.l0 k a b a (a.length : Int) ((i + 1 : Nat) : Int)) (fun k => ?_) hnext
          rw [hstep, if_neg h1, if_neg h2, if_pos rfl]
    · have e2 : b.drop i = [] := List.drop_eq_nil_of_le (by omega)
      rw [e2]
      refine Ev.step (f := fun _ => some 1) (fun k => ?_) (Ev.now _)
      rw [slices_Compare_int_int.l0, if_pos (by omega), if_pos (by omega), if_pos (by omega), if_pos (by omega)]
theorem cmp_rows (a b : List Int) (ha : a.length < 1099511627776) (hb : b.length < 1099511627776) : Ev (fun k => slices_Compare_int_int.f k a b) (cmpL a b) := by
  have := cmp_rows_l a b ha hb a.length 0 (by omega) (by omega)
  exact this
theorem eq_rows_l (a b : List Int) (ha : a.length < 1099511627776) (hl : a.length = b.length) : ∀ (d i : Nat), i + d = a.length → Ev (fun k => slices_Equal_int_int.l0 k a b (a.length : Int) (i : Int)) (decide (a.drop i = b.drop i)) := by
  intro d
  induction d with
  | zero =>
    intro i hi
    refine Ev.step (f := fun _ => some true) (fun k => ?_) (by rw [List.drop_eq_nil_of_le (show a.length ≤ i by omega), List.drop_eq_nil_of_le (show b.length ≤ i by omega)]; exact Ev.now _)
    rw [slices_Equal_int_int.l0, if_neg (by omega)]
  | succ d ih =>
    intro i hi
    have hia : i < a.length := by omega
    have hib : i < b.length := by omega
    rw [List.drop_eq_getElem_cons hia, List.drop_eq_getElem_cons hib]
    have hstep : ∀ k, slices_Equal_int_int.l0 (k + 1) a b (a.length : Int) (i : Int) = if a[i] = b[i] then slices_Equal_int_int.l0 k a b (a.length : Int) ((i + 1 : Nat) : Int) else some false := by
      intro k
      rw [slices_Equal_int_int.l0, if_pos (by omega), if_pos (by omega), if_pos (by omega), if_pos (by omega), rd_at a i hia, rd_at b i hib, w_next i (by omega)]
    by_cases h : a[i] = b[i]
    · have e : decide (a[i] :: a.drop (i + 1) = b[i] :: b.drop (i + 1)) = decide (a.drop (i + 1) = b.drop (i + 1)) := by
        simp only [List.cons.injEq, h, true_and]
      rw [e]
      refine Ev.step (f := fun k => slices_Equal_int_int.l0 k a b (a.length : Int) ((i + 1 : Nat) : Int)) (fun k => ?_) (ih (i + 1) (by omega))
      rw [hstep, if_pos h]
    · have e : decide (a[i] :: a.drop (i + 1) = b[i] :: b.drop (i + 1)) = false := decide_eq_false (fun he => h (List.cons.inj he).1)
      rw [e]
      refine Ev.step (f := fun _ => some false) (fun k => ?_) (Ev.now _)
      rw [hstep, if_neg h]
theorem eq_rows (a b : List Int) (ha : a.length < 1099511627776) : Ev (fun k => slices_Equal_int_int.f k a b) (decide (a = b)) := by
  unfold slices_Equal_int_int.f
  by_cases hl : a.length = b.length
  · refine Ev.congr (fun k => if_pos (by omega)) ?_
    exact eq_rows_l a b ha hl a.length 0 (by omega)
  · rw [decide_eq_false (fun he => hl (by rw [he]))]
    exact Ev.congr (fun k => if_neg (by omega)) (Ev.now _)
theorem less_rows_l (a b : List Int) (ha : a.length < 1099511627776) (hl : a.length = b.length) : ∀ (d i : Nat), i + d = a.length → Ev (fun k => spec_l14Less.l0 k a b (i : Int)) (lx (a.drop i) (b.drop i)) := by
  intro d
  induction d with
  | zero =>
    intro i hi
    refine Ev.step (f := fun _ => some false) (fun k => ?_) (by rw [List.drop_eq_nil_of_le (show a.length ≤ i by omega), List.drop_eq_nil_of_le (show b.length ≤ i by omega)]; exact Ev.now _)
    rw [spec_l14Less.l0, if_neg (by omega)]
  | succ d ih =>
    intro i hi
    have hia : i < a.length := by omega
    have hib : i < b.length := by omega
    rw [List.drop_eq_getElem_cons hia, List.drop_eq_getElem_cons hib, lx]
    have hstep : ∀ k, spec_l14Less.l0 (k + 1) a b (i : Int) = if a[i] = b[i] then spec_l14Less.l0 k a b ((i + 1 : Nat) : Int) else some (decide (a[i] < b[i])) := by
      intro k
      rw [spec_l14Less.l0, if_pos (by omega), if_pos (by omega), if_pos (by omega), rd_at a i hia, rd_at b i hib, w_next i (by omega)]
    by_cases h : a[i] = b[i]
    · rw [if_neg (by omega), if_neg (by omega)]
      refine Ev.step (f := fun k => spec_l14Less.l0 k a b ((i + 1 : Nat) : Int)) (fun k => ?_) (ih (i + 1) (by omega))
      rw [hstep, if_pos h]
    · refine Ev.step (f := fun _ => some (decide (a[i] < b[i]))) (fun k => ?_) ?_
      · rw [hstep, if_neg h]
      · by_cases h1 : a[i] < b[i]
        · rw [if_pos h1, decide_eq_true h1]; exact Ev.now _
        · rw [if_neg h1, if_pos (by omega), decide_eq_false h1]; exact Ev.now _
theorem less_rows (a b : List Int) (ha : a.length < 1099511627776) (hl : a.length = b.length) : Ev (fun k => spec_l14Less.f k a b) (lx a b) := by
  have := less_rows_l a b ha hl a.length 0 (by omega)
  exact this

end Go.Proofs.Ythibphndihjcaaa.P
