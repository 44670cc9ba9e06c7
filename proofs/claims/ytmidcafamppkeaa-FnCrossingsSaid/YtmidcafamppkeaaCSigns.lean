/- Order signs: the reference's sign of three elements, and the program's table of them. Conditions: three to seven elements, a text of as many signs as triples. -/
import Derived.Test.YtmidcafamppkeaaCNum
import Derived.Test.YtmidcafamppkeaaP90
import Derived.Test.YtmidcafamppkeaaP58
import Derived.Test.YtmidcafamppkeaaP82
namespace Go.Proofs.Ytmidcafamppkeaa.P
open Go.RowKit Go.Proofs.YtmidcafamppkeaaW.PrintWords Go.Proofs.YtmidcafamppkeaaW.PrintLast
set_option linter.unusedVariables false

/-- The triples in order. -/
def cTrips (n : Nat) : List (Nat × Nat × Nat) := (List.range n).flatMap fun i => (List.range' (i + 1) (n - (i + 1))).flatMap fun j => (List.range' (j + 1) (n - (j + 1))).map fun k => (i, j, k)
def cT3 (p : Nat × Nat × Nat) : S102 := ⟨(p.1 : Int), (p.2.1 : Int), (p.2.2 : Int)⟩
theorem c_five (n : Nat) (h3 : 3 ≤ n) (h7 : n ≤ 7) : n ∈ [3, 4, 5, 6, 7] := by simp; omega
theorem c_triplesOf (n : Nat) (h3 : 3 ≤ n) (h7 : n ≤ 7) : Ev (fun k => impl_triplesOf.f k (n : Int)) ((cTrips n).map cT3) := by
  have hn : n = 3 ∨ n = 4 ∨ n = 5 ∨ n = 6 ∨ n = 7 := by omega
  rcases hn with rfl | rfl | rfl | rfl | rfl <;> exact Ev.of (impl_triplesOf.mono _) (k := 120) (by kernel_rfl)
theorem c_trips_all : ∀ n ∈ [3, 4, 5, 6, 7], (cTrips n).length ≤ 35 ∧ ∀ p ∈ cTrips n, p.1 < p.2.1 ∧ p.2.1 < p.2.2 ∧ p.2.2 < n := by decide +kernel
/-- The place of a triple. -/
def cI (n i j k : Nat) : Nat := ((spec_l3Index.f 30 (n : Int) (i : Int) (j : Int) (k : Int)).getD 0).toNat
theorem c_l3Index_all : ∀ n ∈ [3, 4, 5, 6, 7], ∀ k ∈ List.range n, ∀ j ∈ List.range k, ∀ i ∈ List.range j, spec_l3Index.f 30 (n : Nat) (i : Nat) (j : Nat) (k : Nat) = some ((cI n i j k : Nat) : Int) ∧ cI n i j k < (cTrips n).length := by decide +kernel
theorem c_l3Index (n : Nat) (h3 : 3 ≤ n) (h7 : n ≤ 7) (i j k : Nat) (hij : i < j) (hjk : j < k) (hk : k < n) : Ev (fun r => spec_l3Index.f r (n : Int) (i : Int) (j : Int) (k : Int)) ((cI n i j k : Nat) : Int) :=
  Ev.of (spec_l3Index.mono _ _ _ _) (k := 30) (c_l3Index_all n (c_five n h3 h7) k (by simpa using hk) j (by simpa using hjk) i (by simpa using hij)).1
theorem c_cI_lt (n : Nat) (h3 : 3 ≤ n) (h7 : n ≤ 7) (i j k : Nat) (hij : i < j) (hjk : j < k) (hk : k < n) : cI n i j k < (cTrips n).length :=
  (c_l3Index_all n (c_five n h3 h7) k (by simpa using hk) j (by simpa using hjk) i (by simpa using hij)).2
/-- The place and the turn of three different elements. -/
def cPos (n a b c : Nat) : Nat × Bool :=
  if a < b then (if b < c then (cI n a b c, false) else if a < c then (cI n a c b, true) else (cI n c a b, false))
  else (if a < c then (cI n b a c, true) else if b < c then (cI n b c a, false) else (cI n c b a, true))
def cSg (s : ByteArray) (m : Nat) (neg : Bool) : Int := if bt s (m : Int) = 45 then (if neg then 1 else -1) else (if neg then -1 else 1)
/-- The sign of three different elements. -/
def cAt (n : Nat) (s : ByteArray) (a b c : Nat) : Int := cSg s (cPos n a b c).1 (cPos n a b c).2
theorem c_sg (s : ByteArray) (m : Nat) (neg : Bool) : cSg s m neg = 1 ∨ cSg s m neg = -1 := by
  unfold cSg; split <;> cases neg <;> simp
theorem c_at_pm (n : Nat) (s : ByteArray) (a b c : Nat) : cAt n s a b c = 1 ∨ cAt n s a b c = -1 := c_sg _ _ _
/-- Three different elements. -/
def cD3 (n a b c : Nat) : Prop := a < n ∧ b < n ∧ c < n ∧ a ≠ b ∧ a ≠ c ∧ b ≠ c
theorem c_w_m1 : wrap64 (-1) = -1 := c_wid (-1) (by decide) (by decide)
theorem c_w_mm1 : wrap64 (- -1) = 1 := c_wid (- -1) (by decide) (by decide)
theorem c_specAt_end (n : Nat) (h3 : 3 ≤ n) (h7 : n ≤ 7) (s : ByteArray) (hs : s.size = (cTrips n).length) (i j k : Nat) (hij : i < j) (hjk : j < k) (hk : k < n) (neg : Bool) (g : Int) (hg : g = if neg then -1 else 1) :
    Ev (fun r => (spec_l3Index.f r (n : Int) (i : Int) (j : Int) (k : Int)).bind fun t => if 0 ≤ t then (if t < (s.size : Int) then (if bt s t = 45 then some (wrap64 (-g)) else some g) else none) else none) (cSg s (cI n i j k) neg) := by
  refine Ev.bind (c_l3Index n h3 h7 i j k hij hjk hk) ?_
  have hlt := c_cI_lt n h3 h7 i j k hij hjk hk
  refine Ev.congr (f := fun _ => some (cSg s (cI n i j k) neg)) (fun r => ?_) (Ev.now _)
  rw [if_pos (by omega), if_pos (by omega)]
  subst hg
  unfold cSg
  by_cases h : bt s ((cI n i j k : Nat) : Int) = 45
  · rw [if_pos h, if_pos h]; cases neg
    · simp only [Bool.false_eq_true, if_false, c_w_m1]
    · simp only [if_true, c_w_mm1]
  · rw [if_neg h, if_neg h]
theorem c_specAt (n : Nat) (h3 : 3 ≤ n) (h7 : n ≤ 7) (s : ByteArray) (hs : s.size = (cTrips n).length) (a b c : Nat) (h : cD3 n a b c) :
    Ev (fun r => spec_l3At.f r (n : Int) s (a : Int) (b : Int) (c : Int)) (cAt n s a b c) := by
  obtain ⟨ha, hb, hc, hab, hac, hbc⟩ := h
  unfold cAt cPos spec_l3At.f
  by_cases h1 : a < b
  · rw [if_pos h1]
    refine Ev.congr (f := fun r => spec_l3At.j0 r (a : Int) (b : Int) (c : Int) 1 (n : Int) s) (fun r => by rw [if_neg (by omega)]) ?_
    by_cases h2 : b < c
    · rw [if_pos h2]
      refine Ev.step (f := fun r => spec_l3At.j1 r (a : Int) (b : Int) (c : Int) 1 (n : Int) s) (fun r => by simp only [spec_l3At.j0]; rw [if_neg (by omega)]) ?_
      refine Ev.step (fun r => ?_) (c_specAt_end n h3 h7 s hs a b c h1 h2 hc false 1 rfl)
      simp only [spec_l3At.j1]; rw [if_neg (by omega)]
    · rw [if_neg h2]
      refine Ev.step (f := fun r => spec_l3At.j1 r (a : Int) (c : Int) (b : Int) (-1) (n : Int) s) (fun r => by simp only [spec_l3At.j0, c_w_m1]; rw [if_pos (by omega)]) ?_
      by_cases h3' : a < c
      · rw [if_pos h3']
        refine Ev.step (fun r => ?_) (c_specAt_end n h3 h7 s hs a c b h3' (by omega) hb true (-1) rfl)
        simp only [spec_l3At.j1]; rw [if_neg (by omega)]
      · rw [if_neg h3']
        refine Ev.step (fun r => ?_) (c_specAt_end n h3 h7 s hs c a b (by omega) h1 hb false 1 rfl)
        simp only [spec_l3At.j1, c_w_mm1]; rw [if_pos (by omega)]
  · rw [if_neg h1]
    refine Ev.congr (f := fun r => spec_l3At.j0 r (b : Int) (a : Int) (c : Int) (-1) (n : Int) s) (fun r => by rw [if_pos (by omega)]) ?_
    by_cases h2 : a < c
    · rw [if_pos h2]
      refine Ev.step (f := fun r => spec_l3At.j1 r (b : Int) (a : Int) (c : Int) (-1) (n : Int) s) (fun r => by simp only [spec_l3At.j0]; rw [if_neg (by omega)]) ?_
      refine Ev.step (fun r => ?_) (c_specAt_end n h3 h7 s hs b a c (by omega) h2 hc true (-1) rfl)
      simp only [spec_l3At.j1]; rw [if_neg (by omega)]
    · rw [if_neg h2]
      refine Ev.step (f := fun r => spec_l3At.j1 r (b : Int) (c : Int) (a : Int) 1 (n : Int) s) (fun r => by simp only [spec_l3At.j0, c_w_mm1]; rw [if_pos (by omega)]) ?_
      by_cases h3' : b < c
      · rw [if_pos h3']
        refine Ev.step (fun r => ?_) (c_specAt_end n h3 h7 s hs b c a h3' (by omega) ha false 1 rfl)
        simp only [spec_l3At.j1]; rw [if_neg (by omega)]
      · rw [if_neg h3']
        refine Ev.step (fun r => ?_) (c_specAt_end n h3 h7 s hs c b a (by omega) (by omega) ha true (-1) rfl)
        simp only [spec_l3At.j1, c_w_m1]; rw [if_pos (by omega)]

/-! ### the table -/
def cIx (i j k : Nat) : Nat := 1 + i * 49 + j * 7 + k
theorem c_cidx (i j k : Nat) : (cidx (i : Int) (j : Int) (k : Int)).toNat = cIx i j k := by rw [cidx_nat]; rfl
def cSet (l : List Int) (i j k : Nat) (s : Int) : List Int :=
  (((((l.set (cIx i j k) s).set (cIx j k i) s).set (cIx k i j) s).set (cIx i k j) (-s)).set (cIx k j i) (-s)).set (cIx j i k) (-s)
theorem c_set_len (l : List Int) (i j k : Nat) (s : Int) : (cSet l i j k s).length = l.length := by simp [cSet]
theorem c_set (l : List Int) (hl : l.length = 344) (i j k : Nat) (hi : i < 7) (hj : j < 7) (hk : k < 7) (s : Int) (hs : s = 1 ∨ s = -1) : impl_chi_set.f l (i : Int) (j : Int) (k : Int) s = some (cSet l i j k s) := by
  unfold impl_chi_set.f cSet
  have e : wrap64 (-s) = -s := c_wid _ (by omega) (by omega)
  rw [if_pos (by omega), if_pos (by omega), if_pos (by omega), if_pos (by omega), if_pos (by omega), if_pos (by omega), if_pos (by omega)]
  simp only [c_cidx, e]
def cStep (s : ByteArray) (l : List Int) (pm : (Nat × Nat × Nat) × Nat) : List Int := cSet l pm.1.1 pm.1.2.1 pm.1.2.2 (if bt s (pm.2 : Int) = 45 then -1 else 1)
def cTab (n : Nat) (s : ByteArray) : List Int := (cTrips n).zipIdx.foldl (cStep s) (chi0 (n : Int))
theorem c_chi0_len (n : Int) : (chi0 n).length = 344 := by unfold chi0; rw [List.length_cons, List.length_replicate]
theorem c_step_len (s : ByteArray) (l : List Int) (pm : (Nat × Nat × Nat) × Nat) : (cStep s l pm).length = l.length := c_set_len _ _ _ _ _
theorem c_fold_len (s : ByteArray) : ∀ (ps : List ((Nat × Nat × Nat) × Nat)) (l : List Int), (ps.foldl (cStep s) l).length = l.length
  | [], _ => rfl
  | p :: ps, l => by rw [List.foldl_cons, c_fold_len s ps, c_step_len]
theorem c_tab_len (n : Nat) (s : ByteArray) : (cTab n s).length = 344 := by unfold cTab; rw [c_fold_len, c_chi0_len]
theorem c_rdT3 (ts : List (Nat × Nat × Nat)) (m : Nat) (h : m < ts.length) : rd_T102 (ts.map cT3) (m : Int) = cT3 ts[m] := by
  simp [rd_T102, List.getD_eq_getElem?_getD, List.getElem?_eq_getElem h]
theorem c_table_loop (n : Int) (s : ByteArray) (ts : List (Nat × Nat × Nat)) (hts : ∀ p ∈ ts, p.1 < 7 ∧ p.2.1 < 7 ∧ p.2.2 < 7) (hs : s.size = ts.length) (hlen : ts.length ≤ 35) : ∀ (d m : Nat) (l : List Int), l.length = 344 → m + d = ts.length →
    Ev (fun k => impl_tableOf.l0 k l (ts.map cT3) ((ts.map cT3).length : Int) (m : Int) n s) ((ts.zipIdx.drop m).foldl (cStep s) l) := by
  intro d
  induction d with
  | zero =>
    intro m l hl hm
    refine Ev.step (f := fun _ => some l) (fun k => ?_) (by rw [List.drop_eq_nil_of_le (by rw [List.length_zipIdx]; omega)]; exact Ev.now _)
    simp only [impl_tableOf.l0]; rw [if_neg (by rw [List.length_map]; omega)]
  | succ d ih =>
    intro m l hl hm
    have hmt : m < ts.length := by omega
    have hp := hts ts[m] (List.getElem_mem _)
    rw [List.drop_eq_getElem_cons (by rw [List.length_zipIdx]; exact hmt), List.foldl_cons, List.getElem_zipIdx, Nat.zero_add]
    refine Ev.step (f := fun k => (some (cStep s l (ts[m], m))).bind fun l' => impl_tableOf.l0 k l' (ts.map cT3) ((ts.map cT3).length : Int) ((m + 1 : Nat) : Int) n s) (fun k => ?_) ?_
    · simp only [impl_tableOf.l0]
      rw [if_pos (by rw [List.length_map]; omega), if_pos (by omega), if_pos (by rw [List.length_map]; omega), if_pos (by omega), c_rdT3 ts m hmt, c_w1 m (by omega)]
      by_cases hb : bt s (m : Int) = 45
      · rw [if_pos hb]; simp only [cT3]; rw [c_set l hl _ _ _ hp.1 hp.2.1 hp.2.2 _ (.inr rfl)]; unfold cStep; simp only [if_pos hb]
      · rw [if_neg hb]; simp only [cT3]; rw [c_set l hl _ _ _ hp.1 hp.2.1 hp.2.2 _ (.inl rfl)]; unfold cStep; simp only [if_neg hb]
    · exact ih (m + 1) _ (by rw [c_step_len]; exact hl) (by omega)
theorem c_tableOf (n : Nat) (h3 : 3 ≤ n) (h7 : n ≤ 7) (s : ByteArray) (hs : s.size = (cTrips n).length) : Ev (fun k => impl_tableOf.f k (n : Int) s) (cTab n s) := by
  unfold impl_tableOf.f
  refine Ev.bind (c_triplesOf n h3 h7) ?_
  obtain ⟨h35, hp⟩ := c_trips_all n (c_five n h3 h7)
  have h := c_table_loop (n : Int) s (cTrips n) (fun p h => by have := hp p h; omega) hs h35 (cTrips n).length 0 (chi0 (n : Int)) (c_chi0_len _) (by omega)
  exact h
/-- Which triple writes a cell, and how. -/
def cLk (q : Nat) (acc : Option (Nat × Bool)) (pm : (Nat × Nat × Nat) × Nat) : Option (Nat × Bool) :=
  if q = cIx pm.1.1 pm.1.2.2 pm.1.2.1 ∨ q = cIx pm.1.2.2 pm.1.2.1 pm.1.1 ∨ q = cIx pm.1.2.1 pm.1.1 pm.1.2.2 then some (pm.2, true)
  else if q = cIx pm.1.1 pm.1.2.1 pm.1.2.2 ∨ q = cIx pm.1.2.1 pm.1.2.2 pm.1.1 ∨ q = cIx pm.1.2.2 pm.1.1 pm.1.2.1 then some (pm.2, false) else acc
theorem c_getD_set (l : List Int) (i q : Nat) (x : Int) (hq : q < l.length) : (l.set i x).getD q 0 = if q = i then x else l.getD q 0 := by
  rw [List.getD_eq_getElem?_getD, List.getD_eq_getElem?_getD, List.getElem?_set]
  by_cases h : i = q
  · subst h; simp [hq]
  · rw [if_neg h, if_neg (Ne.symm h)]
theorem c_step_get (s : ByteArray) (l : List Int) (pm : (Nat × Nat × Nat) × Nat) (q : Nat) (hq : q < l.length) :
    (cStep s l pm).getD q 0 = match cLk q none pm with | none => l.getD q 0 | some (m, neg) => cSg s m neg := by
  obtain ⟨⟨i, j, k⟩, m⟩ := pm
  unfold cStep cSet cLk
  simp only [c_getD_set, List.length_set, hq]
  have hneg : -(if bt s (m : Int) = 45 then (-1 : Int) else 1) = cSg s m true := by unfold cSg; split <;> rfl
  have hpos : (if bt s (m : Int) = 45 then (-1 : Int) else 1) = cSg s m false := by unfold cSg; split <;> rfl
  rw [hneg, hpos]
  by_cases h1 : q = cIx j i k
  · rw [if_pos h1, if_pos (Or.inr (Or.inr h1))]
  rw [if_neg h1]
  by_cases h2 : q = cIx k j i
  · rw [if_pos h2, if_pos (Or.inr (Or.inl h2))]
  rw [if_neg h2]
  by_cases h3 : q = cIx i k j
  · rw [if_pos h3, if_pos (Or.inl h3)]
  rw [if_neg h3, if_neg (show ¬ (q = cIx i k j ∨ q = cIx k j i ∨ q = cIx j i k) from fun h => h.elim h3 (fun h => h.elim h2 h1))]
  by_cases h4 : q = cIx k i j
  · rw [if_pos h4, if_pos (Or.inr (Or.inr h4))]
  rw [if_neg h4]
  by_cases h5 : q = cIx j k i
  · rw [if_pos h5, if_pos (Or.inr (Or.inl h5))]
  rw [if_neg h5]
  by_cases h6 : q = cIx i j k
  · rw [if_pos h6, if_pos (Or.inl h6)]
  rw [if_neg h6, if_neg (show ¬ (q = cIx i j k ∨ q = cIx j k i ∨ q = cIx k i j) from fun h => h.elim h6 (fun h => h.elim h5 h4))]
theorem c_fold_get (s : ByteArray) (q : Nat) : ∀ (ps : List ((Nat × Nat × Nat) × Nat)) (l : List Int) (acc : Option (Nat × Bool)) (z : Int), q < l.length → (l.getD q 0 = match acc with | none => z | some (m, neg) => cSg s m neg) →
    (ps.foldl (cStep s) l).getD q 0 = match ps.foldl (cLk q) acc with | none => z | some (m, neg) => cSg s m neg
  | [], l, acc, z, hq, h => h
  | p :: ps, l, acc, z, hq, h => by
    rw [List.foldl_cons, List.foldl_cons]
    refine c_fold_get s q ps _ _ z (by rw [c_step_len]; exact hq) ?_
    rw [c_step_get s l p q hq]
    unfold cLk
    by_cases h1 : q = cIx p.1.1 p.1.2.2 p.1.2.1 ∨ q = cIx p.1.2.2 p.1.2.1 p.1.1 ∨ q = cIx p.1.2.1 p.1.1 p.1.2.2
    · rw [if_pos h1, if_pos h1]
    · rw [if_neg h1, if_neg h1]
      by_cases h2 : q = cIx p.1.1 p.1.2.1 p.1.2.2 ∨ q = cIx p.1.2.1 p.1.2.2 p.1.1 ∨ q = cIx p.1.2.2 p.1.1 p.1.2.1
      · rw [if_pos h2, if_pos h2]
      · rw [if_neg h2, if_neg h2]; exact h
theorem c_look_all : ∀ n ∈ [3, 4, 5, 6, 7], ((cTrips n).zipIdx.foldl (cLk 0) none = none) ∧ ∀ a ∈ List.range n, ∀ b ∈ List.range n, ∀ c ∈ List.range n, (a ≠ b ∧ a ≠ c ∧ b ≠ c) → (cTrips n).zipIdx.foldl (cLk (cIx a b c)) none = some (cPos n a b c) := by decide +kernel
theorem c_tab_n (n : Nat) (h3 : 3 ≤ n) (h7 : n ≤ 7) (s : ByteArray) : rd (cTab n s) 0 = (n : Int) := by
  have h := c_fold_get s 0 (cTrips n).zipIdx (chi0 (n : Int)) none (n : Int) (by rw [c_chi0_len]; omega) rfl
  rw [(c_look_all n (c_five n h3 h7)).1] at h
  exact h
theorem c_tab_at (n : Nat) (h3 : 3 ≤ n) (h7 : n ≤ 7) (s : ByteArray) (a b c : Nat) (h : cD3 n a b c) : rd (cTab n s) (cidx (a : Int) (b : Int) (c : Int)) = cAt n s a b c := by
  obtain ⟨ha, hb, hc, hab, hac, hbc⟩ := h
  have h := c_fold_get s (cIx a b c) (cTrips n).zipIdx (chi0 (n : Int)) none ((chi0 (n : Int)).getD (cIx a b c) 0) (by rw [c_chi0_len]; unfold cIx; omega) rfl
  rw [(c_look_all n (c_five n h3 h7)).2 a (by simpa using ha) b (by simpa using hb) c (by simpa using hc) ⟨hab, hac, hbc⟩] at h
  unfold rd
  rw [c_cidx]
  exact h

end Go.Proofs.Ytmidcafamppkeaa.P
