/- WiringOfPoints: the reference's and the program's tell the same. Conditions: at most 2^20 points. -/
import Derived.Test.YtiimkifkakdalaaCPts
import Derived.Test.YtiimkifkakdalaaCWFrom
import Derived.Test.YtiimkifkakdalaaOWop
import Derived.Test.YtiimkifkakdalaaOWopS
namespace Go.Proofs.Ytiimkifkakdalaa.P
open Go.RowKit Go.Sort Go.Proofs.YtiimkifkakdalaaW.PrintWords Go.Proofs.YtiimkifkakdalaaW.PrintLast Go.Proofs.YtiimkifkakdalaaW.PrintMore
set_option linter.unusedVariables false
set_option linter.unusedSimpArgs false

section
variable {α : Type} [Inhabited α] (lt : α → α → Bool) (x : α) (l : List α)
theorem bAt_high : ∀ j, j ≤ l.length → ∀ k, bAt lt x l j ≤ k → k < j → lt x l[k]! = true
  | 0, _, k, _, h => absurd h (by omega)
  | j + 1, hj, k, h1, h2 => by
    rw [bAt] at h1
    split at h1
    · next hx =>
      by_cases e : k = j
      · subst e; exact hx
      · exact bAt_high j (by omega) k h1 (by omega)
    · omega
theorem bAt_low : ∀ j, j ≤ l.length → 0 < bAt lt x l j → lt x l[bAt lt x l j - 1]! = false
  | 0, _, h => absurd h (by simp [bAt])
  | j + 1, hj, h => by
    rw [bAt] at h ⊢
    split
    · next hx => rw [if_pos hx] at h; exact bAt_low j (by omega) h
    · next hx => simpa using hx
theorem bIns_sorted (h : SWO lt) (hl : l.Pairwise (fun a b => lt b a = false)) : (bIns lt l x).Pairwise (fun a b => lt b a = false) := by
  unfold bIns
  have hm := bAt_le lt x l l.length
  have hi := bAt_high lt x l l.length (Nat.le_refl _)
  have lo := bAt_low lt x l l.length (Nat.le_refl _)
  generalize bAt lt x l l.length = m at hm hi lo
  have hd : ∀ b ∈ l.drop m, lt x b = true := by
    intro b hb
    obtain ⟨i, hi1, rfl⟩ := List.mem_iff_getElem.mp hb
    rw [List.length_drop] at hi1
    have := hi (m + i) (by omega) (by omega)
    rw [getElem!_pos l (m + i) (by omega)] at this
    rw [List.getElem_drop]; exact this
  have hsplit : (l.take m ++ l.drop m).Pairwise (fun a b => lt b a = false) := by rw [List.take_append_drop]; exact hl
  rw [List.pairwise_append] at hsplit
  refine List.pairwise_append.mpr ⟨hsplit.1, List.pairwise_cons.mpr ⟨fun b hb => ?_, hsplit.2.1⟩, fun a ha b hb => ?_⟩
  · cases hq : lt b x with
    | false => rfl
    | true =>
      have := h.trans x b x (hd b hb) hq
      rw [h.irrefl] at this; cases this
  · rcases List.mem_cons.mp hb with rfl | hb
    · obtain ⟨i, hi1, rfl⟩ := List.mem_iff_getElem.mp ha
      rw [List.length_take] at hi1
      have h1 := lo (by omega)
      rw [getElem!_pos l (m - 1) (by omega)] at h1
      refine h.ntrans b l[m - 1] _ h1 ?_
      rw [List.getElem_take]
      by_cases e : i = m - 1
      · subst e; exact h.irrefl _
      · exact List.pairwise_iff_getElem.mp hl i (m - 1) (by omega) (by omega) (by omega)
    · exact hsplit.2.2 a ha b hb
theorem bSort_sorted_l (h : SWO lt) : ∀ (l acc : List α), acc.Pairwise (fun a b => lt b a = false) → (l.foldl (bIns lt) acc).Pairwise (fun a b => lt b a = false)
  | [], _, ha => ha
  | y :: l, acc, ha => bSort_sorted_l h l _ (bIns_sorted lt y acc h ha)
theorem bSort_sorted (h : SWO lt) (l : List α) : (bSort lt l).Pairwise (fun a b => lt b a = false) := bSort_sorted_l lt h l [] List.Pairwise.nil
end
theorem p_before (a b : Pt) : spec_l2Before.f a.f0 a.f1 b.f0 b.f1 = some (ltOf cfP a b) := by
  rw [cfP_neg]
  unfold spec_l2Before.f
  by_cases h1 : a.f0 < b.f0
  · rw [if_pos h1, decide_eq_true (.inl h1)]
  · rw [if_neg h1]
    by_cases h2 : a.f0 = b.f0
    · rw [if_pos h2]; congr 1; exact decide_eq_decide.mpr ⟨fun h => .inr ⟨h2, h⟩, fun h => h.elim (fun h => absurd h h1) (fun h => h.2)⟩
    · rw [if_neg h2]; congr 1; exact (decide_eq_false (fun h => h.elim h1 (fun h => h2 h.1))).symm
theorem pS_put (l acc : List Pt) (i : Nat) (hi : i < l.length) (hl : l.length ≤ 7) (ha : acc.length ≤ 7) (r : List Pt) : ∀ (t : Nat), t ≤ acc.length → Ev (fun k => spec_SortPoints.l0 k l (acc.take (bAt (ltOf cfP) (l.getD i z64) acc t) ++ l.getD i z64 :: acc.drop (bAt (ltOf cfP) (l.getD i z64) acc t)) ((i + 1 : Nat) : Int)) r →
    Ev (fun k => spec_SortPoints.l1 k l acc (i : Int) (t : Int)) r
  | 0, _, h => by
    refine Ev.step (f := fun k => spec_SortPoints.l0 k l (acc.take 0 ++ l.getD i z64 :: acc.drop 0) ((i + 1 : Nat) : Int)) (fun k => ?_) h
    simp only [spec_SortPoints.l1]
    rw [if_neg (by omega), Option.bind_some, if_pos (by omega), if_pos (by omega), Option.bind_some, if_pos (by rw [List.length_drop]; simp only [List.length_nil]; omega), Option.bind_some, Option.bind_some, if_pos (by omega), if_pos (by omega), if_pos (by rw [List.length_take]; omega), Option.bind_some, if_pos (by simp; omega), c_w1 i (by omega), p_rd]
    congr 1 <;> simp
  | t + 1, ht, h => by
    have hw : wrap64 (((t + 1 : Nat) : Int) - 1) = (t : Int) := by rw [c_wid _ (by omega) (by omega)]; omega
    have ht2 : acc[t]! = acc.getD t z64 := by rw [getElem!_pos acc t (by omega), List.getD_eq_getElem?_getD, List.getElem?_eq_getElem (by omega)]; rfl
    rw [bAt, ht2] at h
    by_cases hx : ltOf cfP (l.getD i z64) (acc.getD t z64) = true
    · rw [if_pos hx] at h
      refine Ev.step (f := fun k => spec_SortPoints.l1 k l acc (i : Int) (t : Int)) (fun k => ?_) (pS_put l acc i hi hl ha r t (by omega) h)
      simp only [spec_SortPoints.l1]
      rw [hw, if_pos (by omega), if_pos (by omega), if_pos (by omega), if_pos (by omega), if_pos (by omega), p_rd, p_rd, p_before, Option.bind_some, if_pos hx]
    · rw [if_neg hx] at h
      refine Ev.step (f := fun k => spec_SortPoints.l0 k l (acc.take (t + 1) ++ l.getD i z64 :: acc.drop (t + 1)) ((i + 1 : Nat) : Int)) (fun k => ?_) h
      simp only [spec_SortPoints.l1]
      rw [hw, if_pos (by omega), if_pos (by omega), if_pos (by omega), if_pos (by omega), if_pos (by omega), p_rd, p_rd, p_before, Option.bind_some, if_neg hx, Option.bind_some, if_pos (by omega), if_pos (by omega), Option.bind_some, if_pos (by rw [List.length_drop]; simp only [List.length_nil]; omega), Option.bind_some, Option.bind_some, if_pos (by rw [List.length_take]; omega), Option.bind_some, if_pos (by simp; omega), c_w1 i (by omega)]
      congr 1 <;> simp
theorem pS_sort_l (l : List Pt) (hl : l.length ≤ 7) (hall : pAll l) : ∀ (d i : Nat) (acc : List Pt), i + d = l.length → acc.length = i → Ev (fun k => spec_SortPoints.l0 k l acc (i : Int)) ((l.drop i).foldl (bIns (ltOf cfP)) acc) := by
  intro d
  induction d with
  | zero =>
    intro i acc hi ha
    refine Ev.step (f := fun k => spec_SortPoints.j1 k l acc (i : Int) false) (fun k => by simp only [spec_SortPoints.l0]; rw [if_neg (by omega)]) ?_
    refine Ev.step (f := fun _ => some acc) (fun k => by simp only [spec_SortPoints.j1]; rw [if_neg (by simp)]) ?_
    rw [List.drop_eq_nil_of_le (by omega)]; exact Ev.now _
  | succ d ih =>
    intro i acc hi ha
    have hil : i < l.length := by omega
    refine Ev.step (f := fun k => (spec_ArePoints.f k l).bind fun t => spec_SortPoints.j1 k l acc (i : Int) t) (fun k => by simp only [spec_SortPoints.l0]; rw [if_pos (by omega)]) ?_
    refine Ev.bind (pS_are l (by omega) true ⟨fun _ => hall, fun _ => rfl⟩) ?_
    refine Ev.step (f := fun k => spec_SortPoints.l1 k l acc (i : Int) (acc.length : Int)) (fun k => by simp only [spec_SortPoints.j1, if_true]) ?_
    refine pS_put l acc i hil hl (by omega) _ acc.length (Nat.le_refl _) ?_
    have e : l.drop i = l.getD i z64 :: l.drop (i + 1) := by rw [List.drop_eq_getElem_cons hil, List.getD_eq_getElem?_getD, List.getElem?_eq_getElem hil]; rfl
    rw [e, List.foldl_cons]
    exact ih (i + 1) _ (by omega) (by have := (bIns_perm (ltOf cfP) acc (l.getD i z64)).length_eq; rw [List.length_cons] at this; exact this.trans (by omega))
theorem pS_sort (l : List Pt) (hl : l.length ≤ 1048576) (hall : pAll l) : Ev (fun k => spec_SortPoints.f k l) (bSort (ltOf cfP) l) :=
  pS_sort_l l hall.2.1 hall l.length 0 [] (by omega) rfl
theorem pS_sort_no (l : List Pt) (hl : l.length ≤ 1048576) (hall : ¬ pAll l) : Ev (fun k => spec_SortPoints.f k l) [] := by
  have hj : Ev (fun k => spec_SortPoints.j1 k l [] 0 false) [] := Ev.step (f := fun _ => some []) (fun k => by simp only [spec_SortPoints.j1]; rw [if_neg (by simp)]) (Ev.now _)
  unfold spec_SortPoints.f
  by_cases h0 : (0 : Int) < (l.length : Int)
  · refine Ev.step (f := fun k => (spec_ArePoints.f k l).bind fun t => spec_SortPoints.j1 k l [] 0 t) (fun k => by simp only [spec_SortPoints.l0]; rw [if_pos h0]) ?_
    exact Ev.bind (pS_are l hl false ⟨fun h => (by cases h), fun h => absurd h hall⟩) hj
  · exact Ev.step (f := fun k => spec_SortPoints.j1 k l [] 0 false) (fun k => by simp only [spec_SortPoints.l0]; rw [if_neg h0]) hj
theorem pI_sort (l : List Pt) (hall : pAll l) : Ev (fun k => impl_SortPoints.f k l) (bSort (ltOf cfP) l) := by
  unfold impl_SortPoints.f
  have h3 := hall.1
  have h7 := hall.2.1
  refine Ev.bind (pI_are l (by omega) true ⟨fun _ => hall, fun _ => rfl⟩) ?_
  refine Ev.congr (f := fun _ => some (bSort (ltOf cfP) l)) (fun k => ?_) (Ev.now _)
  unfold slices_Clone_pts.f
  rw [if_pos rfl, if_pos (by omega), Option.bind_some, if_pos (by omega)]
/-- A pair of points, the first one further to the left. -/
def pRow (p : List Pt) (r : List Int) : Prop := ∃ a b : Nat, r = [(a : Int), (b : Int)] ∧ a < p.length ∧ b < p.length ∧ (p.getD a z64).f0 < (p.getD b z64).f0
abbrev pLt (p : List Pt) (x y : List Int) : Bool := decide (slR p x y < 0)
theorem p_slope (p : List Pt) (hf : ∀ x ∈ p, pFit 50 x) (i j a b : Nat) (hi : i < p.length) (hj : j < p.length) (ha : a < p.length) (hb : b < p.length) (h1 : (p.getD i z64).f0 < (p.getD j z64).f0) (h2 : (p.getD a z64).f0 < (p.getD b z64).f0) :
    spec_SlopeBefore.f (rd_T64 p (i : Int)).f0 (rd_T64 p (i : Int)).f1 (rd_T64 p (j : Int)).f0 (rd_T64 p (j : Int)).f1 (rd_T64 p (a : Int)).f0 (rd_T64 p (a : Int)).f1 (rd_T64 p (b : Int)).f0 (rd_T64 p (b : Int)).f1 = some (pLt p [(i : Int), (j : Int)] [(a : Int), (b : Int)]) := by
  have fit : ∀ i, i < p.length → pFit 1000 (p.getD i z64) := fun i hi => by
    have h := hf (p[i]) (List.getElem_mem hi)
    rw [List.getD_eq_getElem?_getD, List.getElem?_eq_getElem hi, Option.getD_some]
    unfold pFit at h ⊢; omega
  have fs : ∀ i, i < p.length → spec_l2Fits.f (p.getD i z64).f0 (p.getD i z64).f1 1000 = some true := fun i hi => p_fits _ 1000 (by omega) true ⟨fun _ => fit i hi, fun _ => rfl⟩
  unfold spec_SlopeBefore.f pLt slR
  simp only [List.getD_cons_zero, List.getD_cons_succ]
  rw [p_rd, p_rd, p_rd, p_rd, fs i hi, fs j hj, fs a ha, fs b hb]
  simp only [Option.bind_some, if_true]
  rw [if_neg (by omega), if_neg (by omega)]
  congr 1
  refine decide_eq_decide.mpr ?_
  unfold slP
  constructor
  · intro h; rw [if_pos h]; decide
  · intro h
    by_cases q : wrap64 (wrap64 ((p.getD j z64).f1 - (p.getD i z64).f1) * wrap64 ((p.getD b z64).f0 - (p.getD a z64).f0)) < wrap64 (wrap64 ((p.getD b z64).f1 - (p.getD a z64).f1) * wrap64 ((p.getD j z64).f0 - (p.getD i z64).f0))
    · exact q
    · rw [if_neg q] at h
      split at h <;> simp at h
theorem p_at (p : List Pt) (hf : ∀ x ∈ p, pFit 50 x) (i j : Nat) (hi : i < p.length) (hj : j < p.length) (h1 : (p.getD i z64).f0 < (p.getD j z64).f0) (rows : List (List Int)) (hr : ∀ r ∈ rows, pRow p r) : ∀ t, t ≤ rows.length → wsAt p (i : Int) (j : Int) rows t = some (bAt (pLt p) [(i : Int), (j : Int)] rows t)
  | 0, _ => rfl
  | t + 1, ht => by
    have e : rows[t]! = rows.getD t [] := by rw [getElem!_pos rows t (by omega), List.getD_eq_getElem?_getD, List.getElem?_eq_getElem (by omega)]; rfl
    have hm : rows.getD t [] ∈ rows := by rw [← e, getElem!_pos rows t (by omega)]; exact List.getElem_mem _
    obtain ⟨a, b, er, ha, hb, h2⟩ := hr _ hm
    rw [wsAt, bAt, e, er]
    simp only [List.getD_cons_zero, List.getD_cons_succ]
    rw [p_slope p hf i j a b hi hj ha hb h1 h2, Option.bind_some, p_at p hf i j hi hj h1 rows hr t (by omega)]
    by_cases q : pLt p [(i : Int), (j : Int)] [(a : Int), (b : Int)] = true
    · rw [if_pos q, if_pos q]
    · rw [if_neg q, if_neg q]
/-- The pairs put in, one after the other; none, if two points lie above each other. -/
def pFold (p : List Pt) : List (Nat × Nat) → List (List Int) → Option (List (List Int))
  | [], rows => some rows
  | e :: es, rows => if (p.getD e.1 z64).f0 = (p.getD e.2 z64).f0 then none else pFold p es (bIns (pLt p) rows [(e.1 : Int), (e.2 : Int)])
theorem pFold_app (p : List Pt) : ∀ (es fs : List (Nat × Nat)) (rows : List (List Int)), pFold p (es ++ fs) rows = (pFold p es rows).bind (pFold p fs)
  | [], _, _ => rfl
  | e :: es, fs, rows => by
    rw [List.cons_append, pFold, pFold]
    split
    · rfl
    · exact pFold_app p es fs _
theorem p_ins_row (p : List Pt) (rows : List (List Int)) (x : List Int) (hr : ∀ r ∈ rows, pRow p r) (hx : pRow p x) : ∀ r ∈ bIns (pLt p) rows x, pRow p r := fun r h => by
  rcases List.mem_cons.mp ((bIns_perm (pLt p) rows x).mem_iff.mp h) with rfl | h
  · exact hx
  · exact hr r h
/-- The points of a sorted list. -/
def pSor (p : List Pt) : Prop := (∀ x ∈ p, pFit 50 x) ∧ p.length ≤ 6 ∧ ∀ i j, i < j → j < p.length → (p.getD i z64).f0 ≤ (p.getD j z64).f0
theorem pFold_ok (p : List Pt) (hs : pSor p) : ∀ (es : List (Nat × Nat)) (rows out : List (List Int)), (∀ e ∈ es, e.1 < e.2 ∧ e.2 < p.length) → (∀ r ∈ rows, pRow p r) → pFold p es rows = some out → (∀ r ∈ out, pRow p r) ∧ out.length = rows.length + es.length
  | [], rows, out, _, hr, h => by
    obtain rfl := Option.some.inj h
    exact ⟨hr, rfl⟩
  | e :: es, rows, out, he, hr, h => by
    rw [pFold] at h
    have h0 := he e (List.mem_cons_self ..)
    split at h
    · cases h
    · next hx =>
      have hlt := hs.2.2 e.1 e.2 h0.1 h0.2
      obtain ⟨h1, h2⟩ := pFold_ok p hs es _ out (fun e h => he e (List.mem_cons_of_mem _ h)) (p_ins_row p rows _ hr ⟨e.1, e.2, rfl, by omega, h0.2, by omega⟩) h
      have := (bIns_perm (pLt p) rows [(e.1 : Int), (e.2 : Int)]).length_eq
      rw [List.length_cons] at this
      exact ⟨h1, by rw [h2, this, List.length_cons]; omega⟩
theorem pS_J (p : List Pt) (hs : pSor p) (i : Nat) (hi : i < p.length) : ∀ (d j : Nat) (rows : List (List Int)), j + d = p.length → i < j → (∀ r ∈ rows, pRow p r) → rows.length + d < 1000 → Ev (fun k => wsJ k p (i : Int) (j : Int) rows) (pFold p ((List.range' j d).map fun j => (i, j)) rows) := by
  intro d
  induction d with
  | zero =>
    intro j rows hj hij hr hl
    refine Ev.step (f := fun _ => some (some rows)) (fun k => ?_) (Ev.now _)
    rw [wsJ, if_neg (by omega)]
  | succ d ih =>
    intro j rows hj hij hr hl
    have hlt := hs.2.2 i j hij (by omega)
    have er : ((List.range' j (d + 1)).map fun j => (i, j)) = (i, j) :: ((List.range' (j + 1) d).map fun j => (i, j)) := by rw [List.range'_succ, List.map_cons]
    rw [er, pFold]
    by_cases hx : (p.getD i z64).f0 = (p.getD j z64).f0
    · refine Ev.step (f := fun _ => some none) (fun k => ?_) (by rw [if_pos hx]; exact Ev.now _)
      rw [wsJ, if_pos (by omega), p_rd, p_rd, if_pos hx]
    · rw [if_neg hx]
      refine Ev.step (f := fun k => wsJ k p (i : Int) ((j + 1 : Nat) : Int) (bIns (pLt p) rows [(i : Int), (j : Int)])) (fun k => ?_) (ih (j + 1) _ (by omega) (by omega) (p_ins_row p rows _ hr ⟨i, j, rfl, hi, by omega, by omega⟩) (by have := (bIns_perm (pLt p) rows [(i : Int), (j : Int)]).length_eq; rw [List.length_cons] at this; omega))
      rw [wsJ, if_pos (by omega), p_rd, p_rd, if_neg hx, if_pos (by omega), p_at p hs.1 i j hi (by omega) (by omega) rows hr _ (Nat.le_refl _), Option.bind_some]
      rfl
def pPairsFrom (n i d : Nat) : List (Nat × Nat) := (List.range' i d).flatMap fun i => (List.range' (i + 1) (n - (i + 1))).map fun j => (i, j)
theorem pS_I (p : List Pt) (hs : pSor p) : ∀ (d i : Nat) (rows : List (List Int)), i + d = p.length → (∀ r ∈ rows, pRow p r) → rows.length + 6 * d < 100 → Ev (fun k => wsI k p (i : Int) rows) (pFold p (pPairsFrom p.length i d) rows) := by
  intro d
  induction d with
  | zero =>
    intro i rows hi hr hl
    refine Ev.step (f := fun _ => some (some rows)) (fun k => ?_) (Ev.now _)
    rw [wsI, if_neg (by omega)]
  | succ d ih =>
    intro i rows hi hr hl
    have h6 := hs.2.1
    refine Ev.step (f := fun k => (wsJ k p (i : Int) ((i + 1 : Nat) : Int) rows).bind fun o => wsN (wsI k p ((i + 1 : Nat) : Int)) o) (fun k => by rw [wsI, if_pos (by omega)]; rfl) ?_
    refine Ev.bind (pS_J p hs i (by omega) (p.length - (i + 1)) (i + 1) rows (by omega) (by omega) hr (by omega)) ?_
    have er : pPairsFrom p.length i (d + 1) = ((List.range' (i + 1) (p.length - (i + 1))).map fun j => (i, j)) ++ pPairsFrom p.length (i + 1) d := by
      unfold pPairsFrom; rw [List.range'_succ, List.flatMap_cons]
    rw [er, pFold_app]
    cases hq : pFold p ((List.range' (i + 1) (p.length - (i + 1))).map fun j => (i, j)) rows with
    | none => exact Ev.now _
    | some out =>
      obtain ⟨h1, h2⟩ := pFold_ok p hs _ rows out (fun e he => by
        obtain ⟨j, hj, rfl⟩ := List.mem_map.mp he
        rw [List.mem_range'_1] at hj
        exact ⟨by show i < j; omega, by show j < p.length; omega⟩) hr hq
      rw [List.length_map, List.length_range'] at h2
      exact ih (i + 1) out (by omega) h1 (by omega)
def pE (e : Nat × Nat) : S72 := ⟨(e.1 : Int), (e.2 : Int)⟩
theorem pI_F (p : List Pt) : ∀ (es : List (Nat × Nat)) (acc rows : List (List Int)), wopF p (es.map pE) acc = none ∧ pFold p es rows = none ∨ ∃ rs, wopF p (es.map pE) acc = some (acc ++ rs) ∧ pFold p es rows = some (rs.foldl (bIns (pLt p)) rows)
  | [], acc, rows => .inr ⟨[], by simp [wopF], rfl⟩
  | e :: es, acc, rows => by
    rw [List.map_cons, wopF, pFold]
    have e1 : (rd_T64 p (pE e).f0).f0 = (p.getD e.1 z64).f0 := by rw [show (pE e).f0 = ((e.1 : Nat) : Int) from rfl, p_rd]
    have e2 : (rd_T64 p (pE e).f1).f0 = (p.getD e.2 z64).f0 := by rw [show (pE e).f1 = ((e.2 : Nat) : Int) from rfl, p_rd]
    rw [e1, e2]
    by_cases hx : (p.getD e.1 z64).f0 = (p.getD e.2 z64).f0
    · exact .inl ⟨if_pos hx, if_pos hx⟩
    · rw [if_neg hx, if_neg hx]
      rcases pI_F p es (acc ++ [[(e.1 : Int), (e.2 : Int)]]) (bIns (pLt p) rows [(e.1 : Int), (e.2 : Int)]) with h | ⟨rs, h1, h2⟩
      · exact .inl h
      · exact .inr ⟨[(e.1 : Int), (e.2 : Int)] :: rs, by rw [show (acc ++ [(e.1 : Int), (e.2 : Int)] :: rs) = acc ++ [[(e.1 : Int), (e.2 : Int)]] ++ rs by simp]; exact h1, h2⟩
theorem p_edgesOf (n : Nat) (h3 : 3 ≤ n) (h6 : n ≤ 6) : Ev (fun k => impl_edgesOf.f k (n : Int)) ((pPairsFrom n 0 n).map pE) := by
  have hn : n = 3 ∨ n = 4 ∨ n = 5 ∨ n = 6 := by omega
  rcases hn with rfl | rfl | rfl | rfl <;> exact Ev.of (impl_edgesOf.mono _) (k := 60) (by kernel_rfl)
theorem p_pairs_all : ∀ n ∈ [3, 4, 5, 6], (0 < (pPairsFrom n 0 n).length ∧ (pPairsFrom n 0 n).length < 20) ∧ ∀ e ∈ pPairsFrom n 0 n, e.1 < e.2 ∧ e.2 < n := by decide +kernel
theorem p_wop (l : List Pt) (hl : l.length ≤ 1048576) : ∃ r : List Int × Bool, Ev (fun k => spec_WiringOfPoints.f k l) r ∧ Ev (fun k => impl_WiringOfPoints.f k l) r ∧ r.1.length ≤ 1099511627776 := by
  unfold spec_WiringOfPoints.f impl_WiringOfPoints.f
  by_cases hall : pAll l
  case neg =>
    refine ⟨([], false), ?_, ?_, by simp⟩
    · refine Ev.bind (pS_sort_no l hl hall) (Ev.congr (f := fun _ => some ([], false)) (fun k => ?_) (Ev.now _))
      exact if_pos rfl
    · refine Ev.bind (pI_are l hl false ⟨fun h => (by cases h), fun h => absurd h hall⟩) (Ev.congr (f := fun _ => some ([], false)) (fun k => ?_) (Ev.now _))
      rw [if_neg (by simp)]
  have hper := bSort_perm (ltOf cfP) l
  have hsor := bSort_sorted (ltOf cfP) cfP_swo l
  have hS := pS_sort l hl hall
  have hI := pI_sort l hall
  have hA := pI_are l hl true ⟨fun _ => hall, fun _ => rfl⟩
  have hpl : (bSort (ltOf cfP) l).length = l.length := hper.length_eq
  have h3 := hall.1
  by_cases h6 : 6 < l.length
  · refine ⟨([], false), ?_, ?_, by simp⟩
    · refine Ev.bind hS (Ev.congr (f := fun _ => some ([], false)) (fun k => ?_) (Ev.now _))
      rw [if_neg (by omega), if_pos (by omega)]
    · refine Ev.bind hA (Ev.congr (f := fun _ => some ([], false)) (fun k => ?_) (Ev.now _))
      rw [if_pos rfl, if_pos (by omega)]
  generalize bSort (ltOf cfP) l = p at hper hsor hS hI hpl
  have hs : pSor p := by
    refine ⟨fun x hx => ?_, by omega, fun i j hij hj => ?_⟩
    · obtain ⟨i, hi, rfl⟩ := List.mem_iff_getElem.mp (hper.mem_iff.mp hx)
      have := (hall.2.2 i hi).1
      rw [List.getD_eq_getElem?_getD, List.getElem?_eq_getElem hi, Option.getD_some] at this
      exact this
    · have := List.pairwise_iff_getElem.mp hsor i j (by omega) hj hij
      rw [cfP_neg] at this
      have := of_decide_eq_false this
      rw [List.getD_eq_getElem?_getD, List.getElem?_eq_getElem (show i < p.length by omega), List.getD_eq_getElem?_getD, List.getElem?_eq_getElem hj, Option.getD_some, Option.getD_some]
      omega
  obtain ⟨hp1, hp2⟩ := p_pairs_all p.length (by simp; omega)
  have hS2 := pS_I p hs p.length 0 [] (by omega) (fun r hr => absurd hr (by simp)) (by have := hs.2.1; simp only [List.length_nil]; omega)
  have hok : wopOk p.length ((pPairsFrom p.length 0 p.length).map pE) := by
    refine ⟨fun e he => ?_, by rw [List.length_map]; exact hp1⟩
    obtain ⟨q, hq, rfl⟩ := List.mem_map.mp he
    have := hp2 q hq
    exact ⟨⟨by show (0 : Int) ≤ (q.1 : Nat); omega, by show ((q.1 : Nat) : Int) < _; omega⟩, ⟨by show (0 : Int) ≤ (q.2 : Nat); omega, by show ((q.2 : Nat) : Int) < _; omega⟩⟩
  have specS : ∀ r, Ev (fun k => wopsEnd k (p.length : Int) (pFold p (pPairsFrom p.length 0 p.length) [])) r → Ev (fun k => (spec_SortPoints.f k l).bind fun p => if (p.length : Int) = 0 then some ([], false) else if 6 < (p.length : Int) then some ([], false) else (wsI k p 0 []).bind fun o => wopsEnd k (p.length : Int) o) r := fun r hr => by
    refine Ev.bind hS (Ev.congr (f := fun k => (wsI k p 0 []).bind fun o => wopsEnd k (p.length : Int) o) (fun k => by rw [if_neg (by omega), if_neg (by omega)]) ?_)
    exact Ev.bind hS2 hr
  have implS : ∀ r, Ev (fun k => wopEnd k p (wopF p ((pPairsFrom p.length 0 p.length).map pE) [])) r → Ev (fun k => (impl_ArePoints.f k l).bind fun b => if b = true then (if 6 < (l.length : Int) then some ([], false) else (impl_SortPoints.f k l).bind fun p => (impl_edgesOf.f k (p.length : Int)).bind fun es => if wopOk p.length es then wopEnd k p (wopF p es []) else none) else some ([], false)) r := fun r hr => by
    refine Ev.bind hA (Ev.congr (f := fun k => (impl_SortPoints.f k l).bind fun p => (impl_edgesOf.f k (p.length : Int)).bind fun es => if wopOk p.length es then wopEnd k p (wopF p es []) else none) (fun k => by rw [if_pos rfl, if_neg (by omega)]) ?_)
    refine Ev.bind hI (Ev.bind (p_edgesOf p.length (by omega) (by omega)) (Ev.congr (fun k => by rw [if_pos hok]) hr))
  rcases pI_F p (pPairsFrom p.length 0 p.length) [] [] with ⟨h1, h2⟩ | ⟨rs, h1, h2⟩
  · refine ⟨([], false), specS _ ?_, implS _ ?_, by simp⟩
    · rw [h2]; exact Ev.now _
    · rw [h1]; exact Ev.now _
  · have hlen : (bSort (pLt p) rs).length ≤ 1048576 := by
      obtain ⟨_, hq⟩ := pFold_ok p hs _ [] _ hp2 (fun r hr => absurd hr (by simp)) h2
      have : (bSort (pLt p) rs).length = (rs.foldl (bIns (pLt p)) []).length := rfl
      rw [this, hq]; simp only [List.length_nil]; omega
    refine ⟨cWFrom (p.length : Int) (bSort (pLt p) rs), specS _ ?_, implS _ ?_, cWFrom_len _ _ hlen⟩
    · rw [h2]; exact cS_WFrom _ _ hlen
    · rw [h1, List.nil_append]; exact cI_WFrom _ _ hlen

end Go.Proofs.Ytiimkifkakdalaa.P
