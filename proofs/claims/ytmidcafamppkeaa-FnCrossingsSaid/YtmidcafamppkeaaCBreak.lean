/- The search for the first break of the exchange rule: the reference and the program tell the same. Conditions: signs of three to seven elements. -/
import Derived.Test.YtmidcafamppkeaaCOrder
namespace Go.Proofs.Ytmidcafamppkeaa.P
open Go.RowKit Go.Proofs.YtmidcafamppkeaaW.PrintWords Go.Proofs.YtmidcafamppkeaaW.PrintLast
set_option linter.unusedVariables false

def cZ (R : List Nat) : List Int := R.map fun (x : Nat) => (x : Int)
theorem c_rdZ (R : List Nat) (i : Nat) : rd (cZ R) (i : Int) = ((R.getD i 0 : Nat) : Int) := by
  unfold rd cZ
  rw [Int.toNat_natCast, List.getD_eq_getElem?_getD, List.getD_eq_getElem?_getD, List.getElem?_map]
  cases R[i]? <;> rfl
theorem c_lenZ (R : List Nat) : (cZ R).length = R.length := by simp [cZ]
/-- All elements but one. -/
def cOth (n a : Nat) : List Nat := (List.range n).filter fun x => decide (x ≠ a)
def cG (a : Nat) (R : List Nat) (i j k l : Nat) : Nat × Nat × Nat × Nat × Nat := (a, R.getD i 0, R.getD j 0, R.getD k 0, R.getD l 0)
def cL4 (a : Nat) (R : List Nat) (i j k l d : Nat) : List (Nat × Nat × Nat × Nat × Nat) := (List.range' l d).map (cG a R i j k)
def cL3 (a : Nat) (R : List Nat) (i j k d : Nat) : List (Nat × Nat × Nat × Nat × Nat) := (List.range' k d).flatMap fun k => cL4 a R i j k (k + 1) (R.length - (k + 1))
def cL2 (a : Nat) (R : List Nat) (i j d : Nat) : List (Nat × Nat × Nat × Nat × Nat) := (List.range' j d).flatMap fun j => cL3 a R i j (j + 1) (R.length - (j + 1))
def cL1 (a : Nat) (R : List Nat) (i d : Nat) : List (Nat × Nat × Nat × Nat × Nat) := (List.range' i d).flatMap fun i => cL2 a R i (i + 1) (R.length - (i + 1))
def cL0 (n a d : Nat) : List (Nat × Nat × Nat × Nat × Nat) := (List.range' a d).flatMap fun a => cL1 a (cOth n a) 0 (cOth n a).length
theorem c_oth_all : ∀ n ∈ [3, 4, 5, 6, 7], ∀ a ∈ List.range n, spec_l3Others.f 20 (n : Nat) (a : Nat) = some (cZ (cOth n a)) ∧ (cOth n a).length ≤ 6 ∧ ∀ l ∈ List.range (cOth n a).length, ∀ k ∈ List.range l, ∀ j ∈ List.range k, ∀ i ∈ List.range j, cD5 n (cG a (cOth n a) i j k l) = true := by decide +kernel
section
variable (n : Nat) (h3 : 3 ≤ n) (h7 : n ≤ 7) (s : ByteArray) (hs : s.size = (cTrips n).length) (a : Nat) (R : List Nat) (h6 : R.length ≤ 6) (hD : ∀ i j k l, i < j → j < k → k < l → l < R.length → cD5 n (cG a R i j k l) = true)
include h3 h7 hs h6 hD
theorem c_fb4 (i j k : Nat) (hij : i < j) (hjk : j < k) (rest) (hr : Ev (fun q => spec_FirstBreak.l3 q (a : Int) (cZ R) (i : Int) (j : Int) ((k + 1 : Nat) : Int) (n : Int) s) (cFb n s rest)) : ∀ (d l : Nat), l + d = R.length → k < l →
    Ev (fun q => spec_FirstBreak.l4 q (a : Int) (cZ R) (i : Int) (j : Int) (k : Int) (l : Int) (n : Int) s) (cFb n s (cL4 a R i j k l d ++ rest)) := by
  intro d
  induction d with
  | zero =>
    intro l hl hkl
    refine Ev.step (fun q => ?_) hr
    simp only [spec_FirstBreak.l4]; rw [c_lenZ, if_neg (by omega), c_w1 k (by omega)]
  | succ d ih =>
    intro l hl hkl
    unfold cL4
    rw [List.range'_succ, List.map_cons, List.cons_append, c_fb_cons]
    refine Ev.step (f := fun q => (spec_l4Breaks.f q (n : Int) s (a : Int) ((R.getD i 0 : Nat) : Int) ((R.getD j 0 : Nat) : Int) ((R.getD k 0 : Nat) : Int) ((R.getD l 0 : Nat) : Int)).bind fun t => if t = true then some [(a : Int), ((R.getD i 0 : Nat) : Int), ((R.getD j 0 : Nat) : Int), ((R.getD k 0 : Nat) : Int), ((R.getD l 0 : Nat) : Int)] else spec_FirstBreak.l4 q (a : Int) (cZ R) (i : Int) (j : Int) (k : Int) ((l + 1 : Nat) : Int) (n : Int) s) (fun q => ?_) ?_
    · simp only [spec_FirstBreak.l4]
      rw [c_lenZ, if_pos (by omega), if_pos (by omega), if_pos (by omega), if_pos (by omega), if_pos (by omega), if_pos (by omega), if_pos (by omega), if_pos (by omega), c_rdZ, c_rdZ, c_rdZ, c_rdZ, c_w1 l (by omega)]
    · refine Ev.bind (c_specBreaks n h3 h7 s hs (cG a R i j k l) (hD i j k l hij hjk hkl (by omega))) ?_
      by_cases hb : cBr n s (cG a R i j k l) = true
      · rw [if_pos hb]; simp only [if_pos hb]; exact Ev.now _
      · rw [if_neg hb]; simp only [if_neg hb]; exact ih (l + 1) (by omega) (by omega)
theorem c_fb3 (i j : Nat) (hij : i < j) (rest) (hr : Ev (fun q => spec_FirstBreak.l2 q (a : Int) (cZ R) (i : Int) ((j + 1 : Nat) : Int) (n : Int) s) (cFb n s rest)) : ∀ (d k : Nat), k + d = R.length → j < k →
    Ev (fun q => spec_FirstBreak.l3 q (a : Int) (cZ R) (i : Int) (j : Int) (k : Int) (n : Int) s) (cFb n s (cL3 a R i j k d ++ rest)) := by
  intro d
  induction d with
  | zero =>
    intro k hk hjk
    refine Ev.step (fun q => ?_) hr
    simp only [spec_FirstBreak.l3]; rw [c_lenZ, if_neg (by omega), c_w1 j (by omega)]
  | succ d ih =>
    intro k hk hjk
    unfold cL3
    rw [List.range'_succ, List.flatMap_cons, List.append_assoc]
    refine Ev.step (fun q => ?_) (c_fb4 n h3 h7 s hs a R h6 hD i j k hij hjk _ (ih (k + 1) (by omega) (by omega)) (R.length - (k + 1)) (k + 1) (by omega) (by omega))
    simp only [spec_FirstBreak.l3]; rw [c_lenZ, if_pos (by omega), c_w1 k (by omega)]
theorem c_fb2 (i : Nat) (rest) (hr : Ev (fun q => spec_FirstBreak.l1 q (a : Int) (cZ R) ((i + 1 : Nat) : Int) (n : Int) s) (cFb n s rest)) : ∀ (d j : Nat), j + d = R.length → i < j →
    Ev (fun q => spec_FirstBreak.l2 q (a : Int) (cZ R) (i : Int) (j : Int) (n : Int) s) (cFb n s (cL2 a R i j d ++ rest)) := by
  intro d
  induction d with
  | zero =>
    intro j hj hij
    refine Ev.step (fun q => ?_) hr
    simp only [spec_FirstBreak.l2]; rw [c_lenZ, if_neg (by omega), c_w1 i (by omega)]
  | succ d ih =>
    intro j hj hij
    unfold cL2
    rw [List.range'_succ, List.flatMap_cons, List.append_assoc]
    refine Ev.step (fun q => ?_) (c_fb3 n h3 h7 s hs a R h6 hD i j hij _ (ih (j + 1) (by omega) (by omega)) (R.length - (j + 1)) (j + 1) (by omega) (by omega))
    simp only [spec_FirstBreak.l2]; rw [c_lenZ, if_pos (by omega), c_w1 j (by omega)]
theorem c_fb1 (ha : a < 100) (rest) (hr : Ev (fun q => spec_FirstBreak.l0 q ((a + 1 : Nat) : Int) (n : Int) s) (cFb n s rest)) : ∀ (d i : Nat), i + d = R.length →
    Ev (fun q => spec_FirstBreak.l1 q (a : Int) (cZ R) (i : Int) (n : Int) s) (cFb n s (cL1 a R i d ++ rest)) := by
  intro d
  induction d with
  | zero =>
    intro i hi
    refine Ev.step (fun q => ?_) hr
    simp only [spec_FirstBreak.l1]; rw [c_lenZ, if_neg (by omega), c_w1 a (by omega)]
  | succ d ih =>
    intro i hi
    unfold cL1
    rw [List.range'_succ, List.flatMap_cons, List.append_assoc]
    refine Ev.step (fun q => ?_) (c_fb2 n h3 h7 s hs a R h6 hD i _ (ih (i + 1) (by omega)) (R.length - (i + 1)) (i + 1) (by omega) (by omega))
    simp only [spec_FirstBreak.l1]; rw [c_lenZ, if_pos (by omega), c_w1 i (by omega)]
end
theorem c_fb0 (n : Nat) (h3 : 3 ≤ n) (h7 : n ≤ 7) (s : ByteArray) (hs : s.size = (cTrips n).length) (hsg : cSigns (n : Int) s = true) (hs2 : s.size ≤ 1099511627776) : ∀ (d a : Nat), a + d = n →
    Ev (fun q => spec_FirstBreak.l0 q (a : Int) (n : Int) s) (cFb n s (cL0 n a d)) := by
  intro d
  induction d with
  | zero =>
    intro a ha
    refine Ev.step (f := fun q => spec_FirstBreak.j1 q (a : Int) false (n : Int) s) (fun q => ?_) (Ev.step (f := fun _ => some []) (fun q => ?_) (Ev.now _))
    · simp only [spec_FirstBreak.l0]; rw [if_neg (by omega)]
    · simp only [spec_FirstBreak.j1, Bool.false_eq_true, if_false]
  | succ d ih =>
    intro a ha
    unfold cL0
    rw [List.range'_succ, List.flatMap_cons]
    have h := c_specSigns (n : Int) s hs2
    rw [hsg] at h
    obtain ⟨ho, h6, hD⟩ := c_oth_all n (c_five n h3 h7) a (by simp; omega)
    refine Ev.step (f := fun q => (spec_AreSigns.f q (n : Int) s).bind fun t => spec_FirstBreak.j1 q (a : Int) t (n : Int) s) (fun q => by simp only [spec_FirstBreak.l0]; rw [if_pos (by omega)]) (Ev.bind h ?_)
    refine Ev.step (f := fun q => (spec_l3Others.f q (n : Int) (a : Int)).bind fun t => spec_FirstBreak.l1 q (a : Int) t 0 (n : Int) s) (fun q => by simp only [spec_FirstBreak.j1, if_true]) (Ev.bind (Ev.of (spec_l3Others.mono _ _) ho) ?_)
    exact c_fb1 n h3 h7 s hs a (cOth n a) h6 (fun i j k l hij hjk hkl hl => hD l (by simpa using hl) k (by simpa using hkl) j (by simpa using hjk) i (by simpa using hij)) (by omega) _ (ih (a + 1) (by omega)) (cOth n a).length 0 (by omega)

/-! ### the program's -/
/-- Four ascending elements, in order. -/
def cQuads (n : Nat) : List (Nat × Nat × Nat × Nat) := (cTrips n).flatMap fun t => (List.range' (t.2.2 + 1) (n - (t.2.2 + 1))).map fun l => (t.1, t.2.1, t.2.2, l)
def cT4 (p : Nat × Nat × Nat × Nat) : S117 := ⟨(p.1 : Int), (p.2.1 : Int), (p.2.2.1 : Int), (p.2.2.2 : Int)⟩
theorem c_quadsOf (n : Nat) (h3 : 3 ≤ n) (h7 : n ≤ 7) : Ev (fun k => impl_quadsOf.f k (n : Int)) ((cQuads n).map cT4) := by
  have hn : n = 3 ∨ n = 4 ∨ n = 5 ∨ n = 6 ∨ n = 7 := by omega
  rcases hn with rfl | rfl | rfl | rfl | rfl <;> exact Ev.of (impl_quadsOf.mono _) (k := 160) (by kernel_rfl)
theorem c_rdT4 (ts : List (Nat × Nat × Nat × Nat)) (m : Nat) (h : m < ts.length) : rd_T117 (ts.map cT4) (m : Int) = cT4 ts[m] := by
  simp [rd_T117, List.getD_eq_getElem?_getD, List.getElem?_eq_getElem h]
def cAvoid (a : Nat) (q : Nat × Nat × Nat × Nat) : Bool := decide (q.1 ≠ a ∧ q.2.1 ≠ a ∧ q.2.2.1 ≠ a ∧ q.2.2.2 ≠ a)
def cM1 (a : Nat) (Q : List (Nat × Nat × Nat × Nat)) : List (Nat × Nat × Nat × Nat × Nat) := (Q.filter (cAvoid a)).map fun q => (a, q)
def cM0 (n a d : Nat) : List (Nat × Nat × Nat × Nat × Nat) := (List.range' a d).flatMap fun a => cM1 a (cQuads n)
theorem c_quads_all : ∀ n ∈ [3, 4, 5, 6, 7], (cQuads n).length ≤ 35 ∧ ∀ a ∈ List.range n, ∀ q ∈ cQuads n, cAvoid a q = true → cD5 n (a, q) = true := by decide +kernel
theorem c_lists_all : ∀ n ∈ [3, 4, 5, 6, 7], cL0 n 0 n = cM0 n 0 n := by decide +kernel
theorem c_ifb1 (n : Nat) (h3 : 3 ≤ n) (h7 : n ≤ 7) (s : ByteArray) (a : Nat) (ha : a < n) (Q : List (Nat × Nat × Nat × Nat)) (hQ : Q.length ≤ 35) (hD : ∀ q ∈ Q, cAvoid a q = true → cD5 n (a, q) = true) (rest) (hr : Ev (fun q => impl_chi_firstBreak.l0 q (cTab n s) ((a + 1 : Nat) : Int)) (cFb n s rest)) : ∀ (d m : Nat), m + d = Q.length →
    Ev (fun q => impl_chi_firstBreak.l1 q (cTab n s) (a : Int) (Q.map cT4) ((Q.map cT4).length : Int) (m : Int)) (cFb n s (cM1 a (Q.drop m) ++ rest)) := by
  intro d
  induction d with
  | zero =>
    intro m hm
    rw [List.drop_eq_nil_of_le (by omega)]
    refine Ev.step (fun q => ?_) hr
    simp only [impl_chi_firstBreak.l1]; rw [List.length_map, if_neg (by omega), c_w1 a (by omega)]
  | succ d ih =>
    intro m hm
    have hmq : m < Q.length := by omega
    rw [List.drop_eq_getElem_cons hmq]
    unfold cM1
    rw [List.filter_cons]
    have hih := ih (m + 1) (by omega)
    by_cases hav : cAvoid a Q[m] = true
    · rw [if_pos hav, List.map_cons, List.cons_append, c_fb_cons]
      have hav2 := hav
      simp only [cAvoid, decide_eq_true_eq] at hav2
      have hb := c_implBreaks n h3 h7 s (a, Q[m]) (hD _ (List.getElem_mem _) hav)
      refine Ev.step (f := fun k => if cBr n s (a, Q[m]) = true then some [(a : Int), ((Q[m].1 : Nat) : Int), ((Q[m].2.1 : Nat) : Int), ((Q[m].2.2.1 : Nat) : Int), ((Q[m].2.2.2 : Nat) : Int)] else impl_chi_firstBreak.l1 k (cTab n s) (a : Int) (Q.map cT4) ((Q.map cT4).length : Int) ((m + 1 : Nat) : Int)) (fun k => ?_) ?_
      · simp only [impl_chi_firstBreak.l1]
        rw [c_rdT4 Q m hmq, List.length_map, if_pos (by omega), if_pos (by omega), if_pos (by omega)]
        have hb' : impl_chi_breaks.f (cTab n s) (a : Int) (cT4 Q[m]).f0 (cT4 Q[m]).f1 (cT4 Q[m]).f2 (cT4 Q[m]).f3 = some (cBr n s (a, Q[m])) := hb
        rw [if_neg (show ¬ (cT4 Q[m]).f0 = (a : Int) from fun h => hav2.1 (Int.ofNat.inj h)), if_neg (show ¬ (cT4 Q[m]).f1 = (a : Int) from fun h => hav2.2.1 (Int.ofNat.inj h)), if_neg (show ¬ (cT4 Q[m]).f2 = (a : Int) from fun h => hav2.2.2.1 (Int.ofNat.inj h)), if_neg (show ¬ (cT4 Q[m]).f3 = (a : Int) from fun h => hav2.2.2.2 (Int.ofNat.inj h)), hb', c_w1 m (by omega)]
        rfl
      · by_cases hb2 : cBr n s (a, Q[m]) = true
        · simp only [if_pos hb2]; exact Ev.now _
        · simp only [if_neg hb2]; exact hih
    · rw [if_neg hav]
      have hav2 := hav
      simp only [cAvoid, decide_eq_true_eq] at hav2
      refine Ev.step (fun k => ?_) hih
      simp only [impl_chi_firstBreak.l1]
      rw [c_rdT4 Q m hmq, List.length_map, if_pos (by omega), if_pos (by omega), if_pos (by omega), c_w1 m (by omega)]
      by_cases e1 : Q[m].1 = a
      · rw [if_pos (show (cT4 Q[m]).f0 = (a : Int) from congrArg Int.ofNat e1)]
      by_cases e2 : Q[m].2.1 = a
      · rw [if_neg (show ¬ (cT4 Q[m]).f0 = (a : Int) from fun h => e1 (Int.ofNat.inj h)), if_pos (show (cT4 Q[m]).f1 = (a : Int) from congrArg Int.ofNat e2)]
      by_cases e3 : Q[m].2.2.1 = a
      · rw [if_neg (show ¬ (cT4 Q[m]).f0 = (a : Int) from fun h => e1 (Int.ofNat.inj h)), if_neg (show ¬ (cT4 Q[m]).f1 = (a : Int) from fun h => e2 (Int.ofNat.inj h)), if_pos (show (cT4 Q[m]).f2 = (a : Int) from congrArg Int.ofNat e3)]
      by_cases e4 : Q[m].2.2.2 = a
      · rw [if_neg (show ¬ (cT4 Q[m]).f0 = (a : Int) from fun h => e1 (Int.ofNat.inj h)), if_neg (show ¬ (cT4 Q[m]).f1 = (a : Int) from fun h => e2 (Int.ofNat.inj h)), if_neg (show ¬ (cT4 Q[m]).f2 = (a : Int) from fun h => e3 (Int.ofNat.inj h)), if_pos (show (cT4 Q[m]).f3 = (a : Int) from congrArg Int.ofNat e4)]
      exact absurd ⟨e1, e2, e3, e4⟩ hav2
theorem c_ifb0 (n : Nat) (h3 : 3 ≤ n) (h7 : n ≤ 7) (s : ByteArray) : ∀ (d a : Nat), a + d = n →
    Ev (fun q => impl_chi_firstBreak.l0 q (cTab n s) (a : Int)) (cFb n s (cM0 n a d)) := by
  intro d
  have hl := c_tab_len n s
  have hn0 := c_tab_n n h3 h7 s
  induction d with
  | zero =>
    intro a ha
    refine Ev.step (f := fun _ => some []) (fun q => ?_) (Ev.now _)
    simp only [impl_chi_firstBreak.l0]; rw [if_pos (by omega), hn0, if_neg (by omega)]
  | succ d ih =>
    intro a ha
    unfold cM0
    rw [List.range'_succ, List.flatMap_cons]
    obtain ⟨h35, hD⟩ := c_quads_all n (c_five n h3 h7)
    refine Ev.step (f := fun q => (impl_quadsOf.f q (n : Int)).bind fun t => impl_chi_firstBreak.l1 q (cTab n s) (a : Int) t (t.length : Int) 0) (fun q => by simp only [impl_chi_firstBreak.l0]; rw [if_pos (by omega), hn0, if_pos (by omega)]) (Ev.bind (c_quadsOf n h3 h7) ?_)
    exact c_ifb1 n h3 h7 s a (by omega) (cQuads n) h35 (hD a (by simp; omega)) _ (ih (a + 1) (by omega)) (cQuads n).length 0 (by omega)
/-- Does the exchange rule hold? -/
def cMat (n : Int) (s : ByteArray) : Bool := cSigns n s && decide (cFb n.toNat s (cM0 n.toNat 0 n.toNat) = [])
theorem c_specMat (n : Int) (s : ByteArray) (hs : s.size ≤ 1099511627776) : Ev (fun k => spec_IsMatroid.f k n s) (cMat n s) := by
  unfold spec_IsMatroid.f cMat
  refine Ev.bind (c_specSigns n s hs) ?_
  by_cases h : cSigns n s = true
  · rw [h, Bool.true_and]
    simp only [if_true]
    obtain ⟨m, rfl, h3, h7, hz⟩ := c_signs_open n s h
    have hf := c_fb0 m h3 h7 s hz h hs m 0 (by omega)
    rw [c_lists_all m (c_five m h3 h7)] at hf
    refine Ev.bind (a := cFb m s (cM0 m 0 m)) hf ?_
    rw [Int.toNat_natCast]
    refine Ev.congr (f := fun _ => some (decide (cFb m s (cM0 m 0 m) = []))) (fun k => ?_) (Ev.now _)
    cases cFb m s (cM0 m 0 m) with
    | nil => rfl
    | cons x xs => simp; omega
  · rw [Bool.not_eq_true] at h
    rw [h, Bool.false_and]
    simp only [Bool.false_eq_true, if_false]
    exact Ev.now _
theorem c_implMat (n : Int) (s : ByteArray) (hs : s.size ≤ 1099511627776) : Ev (fun k => impl_IsMatroid.f k n s) (cMat n s) := by
  unfold impl_IsMatroid.f cMat
  refine Ev.bind (c_implSigns n s hs) ?_
  by_cases h : cSigns n s = true
  · rw [h, Bool.true_and]
    simp only [if_true]
    obtain ⟨m, rfl, h3, h7, hz⟩ := c_signs_open n s h
    have hf := c_ifb0 m h3 h7 s m 0 (by omega)
    have hF : Ev (fun k => impl_FirstBreak.f k (m : Int) s) (cFb m s (cM0 m 0 m)) := by
      unfold impl_FirstBreak.f
      have hsg := c_implSigns (m : Int) s hs
      rw [h] at hsg
      refine Ev.bind hsg ?_
      simp only [if_true]
      exact Ev.bind (c_tableOf m h3 h7 s hz) (Ev.bind hf (Ev.now _))
    refine Ev.bind hF ?_
    rw [Int.toNat_natCast]
    refine Ev.congr (f := fun _ => some (decide (cFb m s (cM0 m 0 m) = []))) (fun k => ?_) (Ev.now _)
    by_cases he : cFb m s (cM0 m 0 m) = []
    · rw [if_pos he, decide_eq_true he]
    · rw [if_neg he, decide_eq_false he]
  · rw [Bool.not_eq_true] at h
    rw [h, Bool.false_and]
    simp only [Bool.false_eq_true, if_false]
    exact Ev.now _

end Go.Proofs.Ytmidcafamppkeaa.P
