/- FlipsFrom: what the program and the reference compute: the flips' results, sorted; the reference puts each into an ascending list, and no two are the same. Conditions: the text is at most 2^40 bytes long. -/
import Derived.Test.YtiimkifkakdalaaWAll2
import Derived.Test.YtiimkifkakdalaaCFlip
import Derived.Test.YtiimkifkakdalaaCDiff
import Derived.Test.YtiimkifkakdalaaOFlips
import Derived.Test.YtiimkifkakdalaaP23
namespace Go.Proofs.Ytiimkifkakdalaa.P
open Go.RowKit Go.Proofs.YtiimkifkakdalaaW.PrintWords Go.Proofs.YtiimkifkakdalaaW.PrintLast
set_option linter.unusedVariables false
set_option linter.unusedSimpArgs false

/-- A number put into an ascending list. -/
def cAdd : List Int → Int → List Int
  | [], x => [x]
  | y :: r, x => if y < x then y :: cAdd r x else if y = x then y :: r else x :: y :: r
theorem cAdd_perm : ∀ (l : List Int) (x : Int), x ∉ l → (cAdd l x).Perm (x :: l)
  | [], x, _ => List.Perm.refl _
  | y :: r, x, h => by
    simp only [List.mem_cons, not_or] at h
    unfold cAdd
    by_cases h1 : y < x
    · rw [if_pos h1]; exact ((cAdd_perm r x h.2).cons y).trans (List.Perm.swap x y r)
    · rw [if_neg h1, if_neg (fun e => h.1 e.symm)]
theorem cAdd_mem : ∀ (l : List Int) (x b : Int), b ∈ cAdd l x → b = x ∨ b ∈ l
  | [], x, b, h => by simp [cAdd] at h; exact .inl h
  | y :: r, x, b, h => by
    unfold cAdd at h
    split at h
    · rcases List.mem_cons.1 h with rfl | h
      · exact .inr (List.mem_cons_self ..)
      · exact (cAdd_mem r x b h).imp id (List.mem_cons_of_mem _)
    · split at h
      · exact .inr h
      · exact List.mem_cons.1 h
theorem cAdd_sorted : ∀ (l : List Int) (x : Int), l.Pairwise (· ≤ ·) → (cAdd l x).Pairwise (· ≤ ·)
  | [], x, _ => by simp [cAdd]
  | y :: r, x, h => by
    have h' := List.pairwise_cons.1 h
    unfold cAdd
    by_cases h1 : y < x
    · rw [if_pos h1, List.pairwise_cons]
      refine ⟨fun b hb => ?_, cAdd_sorted r x h'.2⟩
      rcases cAdd_mem r x b hb with rfl | hb
      · omega
      · exact h'.1 b hb
    · rw [if_neg h1]
      by_cases h2 : y = x
      · rw [if_pos h2]; exact h
      · rw [if_neg h2, List.pairwise_cons]
        refine ⟨fun b hb => ?_, h⟩
        rcases List.mem_cons.1 hb with rfl | hb
        · omega
        · have := h'.1 b hb; omega
def cSort (l : List Int) : List Int := l.mergeSort fun x y => decide (x ≤ y)
theorem cSort_len (l : List Int) : (cSort l).length = l.length := List.length_mergeSort _
theorem cSort_perm (l : List Int) : (cSort l).Perm l := List.mergeSort_perm _ _
theorem cSort_sorted (l : List Int) : (cSort l).Pairwise (· ≤ ·) := by
  have h := List.pairwise_mergeSort (le := fun x y : Int => decide (x ≤ y)) (fun a b c h1 h2 => by simp only [decide_eq_true_eq] at *; omega) (fun a b => by simp only [Bool.or_eq_true, decide_eq_true_eq]; omega) l
  exact h.imp (fun h => by simpa using h)
theorem cSort_add (o : List Int) (x : Int) (h : x ∉ o) : cAdd (cSort o) x = cSort (o ++ [x]) := by
  have hn : x ∉ cSort o := fun hx => h ((cSort_perm o).mem_iff.1 hx)
  refine List.Perm.eq_of_pairwise (fun a b _ _ h1 h2 => by omega) (cAdd_sorted _ x (cSort_sorted o)) (cSort_sorted _) ?_
  exact (cAdd_perm _ x hn).trans (((cSort_perm o).cons x).trans ((List.perm_append_singleton x o).symm.trans (cSort_perm _).symm))
theorem c_specAdd_l (L : List Int) (x : Int) (hL : L.length ≤ 100) : ∀ (d i : Nat), i + d = L.length → Ev (fun k => spec_l10Add.l0 k L x (i : Int)) (L.take i ++ cAdd (L.drop i) x) := by
  have ht : ∀ i, (L.take i).length < 17592186044416 := fun i => by rw [List.length_take]; omega
  have hd : ∀ i, (L.drop i).length < 17592186044416 := fun i => by rw [List.length_drop]; omega
  have ha : ∀ i, (L.take i ++ [x]).length + (L.drop i).length < 17592186044416 := fun i => by rw [List.length_append, List.length_take, List.length_drop, List.length_singleton]; omega
  intro d
  induction d with
  | zero =>
    intro i hi
    refine Ev.step (f := fun _ => some (L.take i ++ cAdd (L.drop i) x)) (fun k => ?_) (Ev.now _)
    have e0 : L.drop i = [] := List.drop_eq_nil_of_le (by omega)
    simp only [spec_l10Add.l0]
    rw [if_neg (by omega)]
    simp only [Option.bind_some, Int.toNat_natCast, List.nil_append, List.length_nil, Nat.zero_add]
    rw [if_pos (by omega), if_pos (by omega), if_pos (hd i), if_pos (ht i), if_pos (ha i), e0]
    simp [cAdd]
  | succ d ih =>
    intro i hi
    have e0 := c_diff_drop L i (by omega)
    have e1 := c_diff_take L i (by omega)
    generalize hy : L.getD i 0 = y at e0 e1
    by_cases h1 : y < x
    · have e2 : L.take i ++ cAdd (L.drop i) x = L.take (i + 1) ++ cAdd (L.drop (i + 1)) x := by
        rw [e0, e1, show cAdd (y :: L.drop (i + 1)) x = y :: cAdd (L.drop (i + 1)) x from by simp only [cAdd, if_pos h1], List.append_assoc]; rfl
      rw [e2]
      refine Ev.step (fun k => ?_) (ih (i + 1) (by omega))
      simp only [spec_l10Add.l0]
      rw [if_pos (by omega), if_pos (by omega), c_rd, hy, if_pos h1, c_w1 i (by omega)]
    · by_cases h2 : y = x
      · refine Ev.step (f := fun _ => some (L.take i ++ cAdd (L.drop i) x)) (fun k => ?_) (Ev.now _)
        have e2 : L.take i ++ cAdd (L.drop i) x = L := by
          conv => rhs; rw [← List.take_append_drop i L]
          rw [e0]; unfold cAdd; rw [if_neg h1, if_pos h2]
        rw [e2]
        simp only [spec_l10Add.l0]
        rw [if_pos (by omega), if_pos (by omega), c_rd, hy, if_neg h1, if_pos h2]
      · refine Ev.step (f := fun _ => some (L.take i ++ cAdd (L.drop i) x)) (fun k => ?_) (Ev.now _)
        have e2 : L.take i ++ cAdd (L.drop i) x = (L.take i ++ [x]) ++ L.drop i := by
          rw [e0]; unfold cAdd; rw [if_neg h1, if_neg h2, List.append_assoc]; rfl
        rw [e2]
        simp only [spec_l10Add.l0]
        rw [if_pos (by omega), if_pos (by omega), c_rd, hy, if_neg h1, if_neg h2]
        simp only [Option.bind_some, Int.toNat_natCast, List.nil_append, List.length_nil, Nat.zero_add]
        rw [if_pos (by omega), if_pos (hd i), if_pos (ht i), if_pos (ha i)]
theorem c_specAdd (L : List Int) (x : Int) (hL : L.length ≤ 100) : Ev (fun k => spec_l10Add.f k L x) (cAdd L x) := by
  have h := c_specAdd_l L x hL L.length 0 (by omega)
  exact h
/-- What a flip gives has another edge in the place of the one that it takes. -/
theorem cFp_form (rows : List Int) (e i : Nat) : ∀ (d q : Nat) (x : Int) (c : Nat), cFp rows e i d q x c = (x, c) ∨ ∃ f, e.testBit f = false ∧ (cFp rows e i d q x c).1 = ((e - 2 ^ i + 2 ^ f : Nat) : Int)
  | 0, q, x, c => .inl rfl
  | d + 1, q, x, c => by
    unfold cFp
    split
    · rename_i h
      rcases cFp_form rows e i d (q + 1) ((e - 2 ^ i + 2 ^ q : Nat) : Int) (c + 1) with h1 | h1
      · exact .inr ⟨q, by simp at h; exact h.1, by rw [h1]⟩
      · exact .inr h1
    · exact cFp_form rows e i d (q + 1) x c
theorem c_flip_form (rows : List Int) (e i : Nat) (y : Int) (h : cFlip rows e i = (y, true)) : ∃ f, e.testBit f = false ∧ y = ((e - 2 ^ i + 2 ^ f : Nat) : Int) := by
  unfold cFlip cFe at h
  rcases cFp_form rows e i rows.length 0 0 0 with h1 | ⟨f, h1, h2⟩
  · rw [h1] at h; simp at h
  · refine ⟨f, h1, ?_⟩
    split at h
    · rw [← h2]; exact (Prod.mk.inj h).1.symm
    · simp at h
theorem c_flip_ne (rows : List Int) (e i j : Nat) (y z : Int) (hi : e.testBit i = true) (hj : e.testBit j = true) (hij : i ≠ j) (h1 : cFlip rows e i = (y, true)) (h2 : cFlip rows e j = (z, true)) : y ≠ z := by
  obtain ⟨f, hf, rfl⟩ := c_flip_form rows e i y h1
  obtain ⟨g, hg, rfl⟩ := c_flip_form rows e j z h2
  intro he
  have he' : e - 2 ^ i + 2 ^ f = e - 2 ^ j + 2 ^ g := by exact_mod_cast he
  have a1 := c_sub_bit e i f hi
  have a2 := c_sub_bit e j g hj
  rw [hf, Bool.false_and] at a1
  rw [hg, Bool.false_and] at a2
  rw [← c_or_add _ _ a1, ← c_or_add _ _ a2] at he'
  have hb := congrArg (fun t => t.testBit j) he'
  simp only [Nat.testBit_or, Nat.testBit_two_pow, c_sub_bit e i j hi, c_sub_bit e j j hj, hj] at hb
  have hgj : g ≠ j := fun h => by rw [h, hj] at hg; cases hg
  have hji : j ≠ i := fun h => hij h.symm
  simp [hgj, hji] at hb
/-- The results of the flips of a triangulation's edges from q on. -/
def cFls (rows : List Int) (e : Nat) : Nat → Nat → List Int
  | 0, _ => []
  | d + 1, q => if (e.testBit q && (cFlip rows e q).2) = true then (cFlip rows e q).1 :: cFls rows e d (q + 1) else cFls rows e d (q + 1)
theorem cFls_len (rows : List Int) (e : Nat) : ∀ (d q : Nat), (cFls rows e d q).length ≤ d
  | 0, _ => Nat.le_refl _
  | d + 1, q => by
    have := cFls_len rows e d (q + 1)
    unfold cFls
    split
    · simp only [List.length_cons]; omega
    · omega
section
variable (rows : List Int) (hl : rows.length ≤ 15) (e : Nat) (he : e < 32768)
include hl he
theorem c_implFlips_l : ∀ (d q : Nat) (o : List Int), q + d = rows.length → o.length ≤ q → Ev (fun k => impl_plane_flips.l0 k rows (e : Int) (q : Int) o) (cSort (o ++ cFls rows e d q)) := by
  intro d
  induction d with
  | zero =>
    intro q o hq ho
    refine Ev.step (f := fun _ => some (cSort (o ++ cFls rows e 0 q))) (fun k => ?_) (Ev.now _)
    simp only [impl_plane_flips.l0]
    rw [if_neg (by omega)]
    unfold slices_Sort_int_int.f
    rw [if_pos (by omega)]
    simp [cFls, cSort]
  | succ d ih =>
    intro q o hq ho
    have hc := c_cBit e q (by omega) (by omega)
    unfold cBit at hc
    cases hb : e.testBit q with
    | false =>
      rw [hb, beq_eq_false_iff_ne] at hc
      have e1 : cFls rows e (d + 1) q = cFls rows e d (q + 1) := by conv => lhs; unfold cFls; rw [hb]; simp
      rw [e1]
      refine Ev.step (fun k => ?_) (ih (q + 1) o (by omega) (by omega))
      simp only [impl_plane_flips.l0]
      rw [if_pos (by omega), if_pos (by omega), if_neg hc, c_w1 q (by omega)]
    | true =>
      rw [hb, beq_iff_eq] at hc
      refine Ev.step (f := fun k => (impl_plane_flip.f k rows (e : Int) (q : Int)).bind fun r => if r.2 = true then (if o.length < 17592186044416 then impl_plane_flips.l0 k rows (e : Int) ((q + 1 : Nat) : Int) (o ++ [r.1]) else none) else impl_plane_flips.l0 k rows (e : Int) ((q + 1 : Nat) : Int) o) (fun k => ?_) ?_
      · simp only [impl_plane_flips.l0]
        rw [if_pos (by omega), if_pos (by omega), if_pos hc, c_w1 q (by omega)]
      · refine Ev.bind (c_implFlip rows hl e q he (by omega) hb) ?_
        cases hf : (cFlip rows e q).2 with
        | true =>
          have e1 : cFls rows e (d + 1) q = (cFlip rows e q).1 :: cFls rows e d (q + 1) := by conv => lhs; unfold cFls; rw [hb, hf]; simp
          simp only [if_true, if_pos (show o.length < 17592186044416 by omega)]
          have h := ih (q + 1) (o ++ [(cFlip rows e q).1]) (by omega) (by simp; omega)
          rw [List.append_assoc] at h
          rw [e1]; exact h
        | false =>
          have e1 : cFls rows e (d + 1) q = cFls rows e d (q + 1) := by conv => lhs; unfold cFls; rw [hb, hf]; simp
          simp only [Bool.false_eq_true, if_false]
          rw [e1]; exact ih (q + 1) o (by omega) (by omega)
theorem c_specFlips_l : ∀ (d q : Nat) (o : List Int), q + d = rows.length → o.length ≤ q → (∀ y ∈ o, ∃ j, j < q ∧ e.testBit j = true ∧ cFlip rows e j = (y, true)) → Ev (fun k => spec_l10Flips.l0 k rows (e : Int) (cSort o) (q : Int)) (cSort (o ++ cFls rows e d q)) := by
  intro d
  induction d with
  | zero =>
    intro q o hq ho hO
    refine Ev.step (f := fun _ => some (cSort (o ++ cFls rows e 0 q))) (fun k => ?_) (Ev.now _)
    simp only [spec_l10Flips.l0]
    rw [if_neg (by omega)]
    simp [cFls]
  | succ d ih =>
    intro q o hq ho hO
    have hO' : ∀ y ∈ o, ∃ j, j < q + 1 ∧ e.testBit j = true ∧ cFlip rows e j = (y, true) := fun y hy => by
      obtain ⟨j, h1, h2⟩ := hO y hy
      exact ⟨j, by omega, h2⟩
    have hpre : ∀ k, spec_l10Flips.l0 (k + 1) rows (e : Int) (cSort o) (q : Int) = if e.testBit q = true then ((spec_l10Flip.f k rows (e : Int) (q : Int)).bind fun bt => if bt.2 = true then ((spec_l10Add.f k (cSort o) bt.1).bind fun t => spec_l10Flips.l0 k rows (e : Int) t ((q + 1 : Nat) : Int)) else spec_l10Flips.l0 k rows (e : Int) (cSort o) ((q + 1 : Nat) : Int)) else spec_l10Flips.l0 k rows (e : Int) (cSort o) ((q + 1 : Nat) : Int) := by
      intro k
      simp only [spec_l10Flips.l0]
      rw [if_pos (by omega), c_has _ q (by omega), c_cBit _ q (by omega) (by omega), c_w1 q (by omega)]
      rfl
    cases hb : e.testBit q with
    | false =>
      have e1 : cFls rows e (d + 1) q = cFls rows e d (q + 1) := by conv => lhs; unfold cFls; rw [hb]; simp
      rw [e1]
      exact Ev.step (fun k => by rw [hpre, hb]; simp) (ih (q + 1) o (by omega) (by omega) hO')
    | true =>
      refine Ev.step (fun k => by rw [hpre, if_pos hb]) (Ev.bind (c_specFlip rows hl e q he (by omega) hb) ?_)
      cases hf : (cFlip rows e q).2 with
      | true =>
        have e1 : cFls rows e (d + 1) q = (cFlip rows e q).1 :: cFls rows e d (q + 1) := by conv => lhs; unfold cFls; rw [hb, hf]; simp
        have hq1 : cFlip rows e q = ((cFlip rows e q).1, true) := by rw [← hf]
        have hn : (cFlip rows e q).1 ∉ o := fun hm => by
          obtain ⟨j, h1, h2, h3⟩ := hO _ hm
          exact c_flip_ne rows e j q _ _ h2 hb (by omega) h3 hq1 rfl
        simp only [if_true]
        refine Ev.bind (c_specAdd (cSort o) _ (by rw [cSort_len]; omega)) ?_
        rw [cSort_add o _ hn]
        have h := ih (q + 1) (o ++ [(cFlip rows e q).1]) (by omega) (by simp; omega) (fun y hy => by
          rcases List.mem_append.1 hy with hy | hy
          · exact hO' y hy
          · rw [List.mem_singleton] at hy; subst hy; exact ⟨q, by omega, hb, hq1⟩)
        rw [List.append_assoc] at h
        rw [e1]; exact h
      | false =>
        have e1 : cFls rows e (d + 1) q = cFls rows e d (q + 1) := by conv => lhs; unfold cFls; rw [hb, hf]; simp
        simp only [Bool.false_eq_true, if_false]
        rw [e1]; exact ih (q + 1) o (by omega) (by omega) hO'
end
/-- What FlipsFrom answers. -/
def cFF (n : Int) (s : ByteArray) (e : Int) : List Int := if cTri n s e = true then cSort (cFls (cRows n.toNat s) e.toNat (cRows n.toNat s).length 0) else []
theorem cFF_len (n : Int) (s : ByteArray) (e : Int) : (cFF n s e).length ≤ 100 := by
  unfold cFF
  split
  · rename_i h
    obtain ⟨m, x, rfl, rfl, h3, h6, hz, _⟩ := c_tri_open n s e h
    have h15 := c_pairs6 m h3 h6
    have hlr := (c_rows_len m h3 (by omega) s).1
    have := cFls_len (cRows m s) x (cRows m s).length 0
    rw [cSort_len, Int.toNat_natCast, Int.toNat_natCast]
    omega
  · simp
theorem c_specFF (n : Int) (s : ByteArray) (hs : s.size ≤ 1099511627776) (e : Int) : Ev (fun k => spec_FlipsFrom.f k n s e) (cFF n s e) := by
  unfold spec_FlipsFrom.f cFF
  refine Ev.bind (c_specTri n s hs e) ?_
  by_cases h : cTri n s e = true
  · simp only [h, if_true]
    obtain ⟨m, x, rfl, rfl, h3, h6, hz, _, _, _, _, hx⟩ := c_tri_open n s e h
    have h15 := c_pairs6 m h3 h6
    have hlr := (c_rows_len m h3 (by omega) s).1
    simp only [Int.toNat_natCast]
    refine Ev.bind (c_specRows m h3 (by omega) s hz) (Ev.bind ?_ (Ev.now _))
    have h' := c_specFlips_l (cRows m s) (by omega) x hx (cRows m s).length 0 [] (by omega) (by simp) (by simp)
    rw [show cSort [] = [] from by simp [cSort], List.nil_append] at h'
    exact h'
  · rw [Bool.not_eq_true] at h
    simp only [h, Bool.false_eq_true, if_false]; exact Ev.now _
theorem c_implFF (n : Int) (s : ByteArray) (hs : s.size ≤ 1099511627776) (e : Int) : Ev (fun k => impl_FlipsFrom.f k n s e) (cFF n s e) := by
  unfold impl_FlipsFrom.f cFF
  refine Ev.bind (c_implTri n s hs e) ?_
  by_cases h : cTri n s e = true
  · simp only [h, if_true]
    obtain ⟨m, x, rfl, rfl, h3, h6, hz, hfit, _, _, _, hx⟩ := c_tri_open n s e h
    have h15 := c_pairs6 m h3 h6
    have hlr := (c_rows_len m h3 (by omega) s).1
    have hp := c_planeOf (m : Int) s hs
    rw [if_pos hfit] at hp
    refine Ev.bind hp ?_
    simp only [if_true, Int.toNat_natCast]
    have h' := c_implFlips_l (cRows m s) (by omega) x hx (cRows m s).length 0 [] (by omega) (by simp)
    exact h'
  · rw [Bool.not_eq_true] at h
    simp only [h, Bool.false_eq_true, if_false]; exact Ev.now _

end Go.Proofs.Ytiimkifkakdalaa.P
