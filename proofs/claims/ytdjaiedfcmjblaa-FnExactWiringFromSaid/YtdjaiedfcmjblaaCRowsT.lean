/- Plain laws of eqIntSS, markIntSS, heldIntSS, toIntSS and szIntSS over rows of at most 2^20 numbers in all. Conditions: that bound. -/
import Derived.Test.YtdjaiedfcmjblaaCRows
import Derived.Test.YtdjaiedfcmjblaaP64
namespace Go.Proofs.Ytdjaiedfcmjblaa.P
open Go.RowKit Go.Proofs.YtdjaiedfcmjblaaW.PrintWords Go.Proofs.YtdjaiedfcmjblaaW.PrintLast
set_option linter.unusedVariables false
set_option linter.unusedSimpArgs false

/-- How many numbers the rows hold. -/
def cTot : List (List Int) → Nat
  | [] => 0
  | r :: x => r.length + cTot x
theorem cTot_mem : ∀ (x : List (List Int)) (r : List Int), r ∈ x → r.length ≤ cTot x
  | [], _, h => by simp at h
  | q :: x, r, h => by
    rcases List.mem_cons.1 h with rfl | h
    · simp [cTot]
    · have := cTot_mem x r h; simp only [cTot]; omega
theorem cME_tot : ∀ (x : List (List Int)) (a : Int), cME x a = a + (cTot x : Int)
  | [], a => by simp [cME, cTot]
  | r :: x, a => by simp only [cME, cTot, cME_tot x]; omega
theorem c_eqSST_l (x : List (List Int)) (hx : x.length ≤ 1048576) (ht : cTot x ≤ 1048576) : ∀ (d i : Nat), i + d = x.length → Ev (fun k => laws_eqIntSS.l0 k x x (i : Int)) true := by
  intro d
  induction d with
  | zero =>
    intro i hi
    refine Ev.step (f := fun _ => some true) (fun k => ?_) (Ev.now _)
    simp only [laws_eqIntSS.l0]; rw [if_neg (by omega)]
  | succ d ih =>
    intro i hi
    have hlt : i < x.length := by omega
    refine Ev.step (f := fun k => (laws_eqIntS.f k x[i] x[i]).bind fun t => if t = true then laws_eqIntSS.l0 k x x ((i + 1 : Nat) : Int) else some false) (fun k => ?_) ?_
    · simp only [laws_eqIntSS.l0]
      rw [if_pos (by omega), if_pos (by omega), if_pos (by omega), c_rdR, c_gR x i hlt, c_w1 i (by omega)]
    · refine Ev.bind (c_eqIntS_self x[i] (by have := cTot_mem x _ (List.getElem_mem hlt); omega)) ?_
      simp only [if_true]
      exact ih (i + 1) (by omega)
theorem c_eqSST (x : List (List Int)) (hx : x.length ≤ 1048576) (ht : cTot x ≤ 1048576) : Ev (fun k => laws_eqIntSS.f k x x) true := by
  unfold laws_eqIntSS.f
  simp only [if_true]
  exact c_eqSST_l x hx ht x.length 0 (Nat.zero_add _)
theorem c_markSST_l : ∀ (x : List (List Int)) (pre : List (List Int)) (a : Int), 0 ≤ a → a + (cTot x : Int) ≤ 1099511627776 → pre.length + x.length ≤ 1048576 →
    Ev (fun k => laws_markIntSS.l0 k (pre ++ x) a (pre.length : Int)) (cME x a, pre ++ cMR x a)
  | [], pre, a, _, _, _ => by
    refine Ev.step (f := fun _ => some (a, pre)) (fun k => ?_) (by simpa [cME, cMR] using Ev.now _)
    simp only [laws_markIntSS.l0]; rw [if_neg (by simp), List.append_nil]
  | r :: x, pre, a, h0, ha, hl => by
    simp only [cTot] at ha
    rw [List.length_cons] at hl
    have hg : (pre ++ r :: x).getD pre.length [] = r := by simp [List.getD_eq_getElem?_getD]
    have hs : ∀ y : List Int, (pre ++ r :: x).set pre.length y = (pre ++ [y]) ++ x := fun y => by simp
    refine Ev.step (f := fun k => (laws_markIntS.f k r a).bind fun t => laws_markIntSS.l0 k ((pre ++ [t.2]) ++ x) t.1 ((pre.length + 1 : Nat) : Int)) (fun k => ?_) ?_
    · simp only [laws_markIntSS.l0, Int.toNat_natCast, hg, hs]
      rw [if_pos (by simp; omega), if_pos (by omega), c_w1 pre.length (by omega)]
    · refine Ev.bind (c_markIntS r a h0 (by omega) (by omega)) ?_
      have h := c_markSST_l x (pre ++ [c_marks a r.length]) (a + (r.length : Int)) (by omega) (by omega) (by rw [List.length_append, List.length_singleton]; omega)
      rw [List.length_append, List.length_singleton] at h
      simpa [cME, cMR] using h
theorem c_markSST (x : List (List Int)) (a : Int) (h0 : 0 ≤ a) (ha : a + (cTot x : Int) ≤ 1099511627776) (hl : x.length ≤ 1048576) : Ev (fun k => laws_markIntSS.f k x a) (cME x a, cMR x a) := by
  have h := c_markSST_l x [] a h0 ha (by simpa using hl)
  exact h
theorem c_toSS_l (x : List (List Int)) (hx : x.length ≤ 1048576) (ht : cTot x ≤ 1048576) : ∀ (d i : Nat) (y : List (List Int)), i + d = x.length → y.length = x.length → (∀ j, j < i → y[j]? = x[j]?) → Ev (fun k => laws_toIntSS.l0 k x y (i : Int)) x := by
  intro d
  induction d with
  | zero =>
    intro i y hi hy h
    refine Ev.step (f := fun _ => some y) (fun k => ?_) ?_
    · simp only [laws_toIntSS.l0]; rw [if_neg (by omega)]
    · have : y = x := by
        apply List.ext_getElem?
        intro j
        by_cases hj : j < i
        · exact h j hj
        · rw [List.getElem?_eq_none (by omega), List.getElem?_eq_none (by omega)]
      rw [this]; exact Ev.now _
  | succ d ih =>
    intro i y hi hy h
    have hlt : i < x.length := by omega
    have hm := cTot_mem x _ (List.getElem_mem hlt)
    refine Ev.step (f := fun k => (laws_toIntS.f k x[i]).bind fun t => laws_toIntSS.l0 k x (y.set i t) ((i + 1 : Nat) : Int)) (fun k => ?_) ?_
    · simp only [laws_toIntSS.l0, Int.toNat_natCast]
      rw [if_pos (by omega), if_pos (by omega), c_rdR, c_gR x i hlt]
      congr 1; funext t
      rw [if_pos (by omega), c_w1 i (by omega)]
    · refine Ev.bind (c_toIntS x[i] (by omega) (by omega)) ?_
      refine ih (i + 1) _ (by omega) (by rw [List.length_set]; exact hy) (fun j hj => ?_)
      by_cases hji : j = i
      · subst hji; rw [List.getElem?_set_self (by omega), List.getElem?_eq_getElem hlt]
      · rw [List.getElem?_set_ne (by omega)]; exact h j (by omega)
theorem c_toSS (x : List (List Int)) (hx : x.length ≤ 1048576) (ht : cTot x ≤ 1048576) : Ev (fun k => laws_toIntSS.f k x) x := by
  unfold laws_toIntSS.f
  have g1 : (0 : Int) ≤ (x.length : Int) := by omega
  have g2 : ((x.length : Int)).toNat ≤ 11728124029610 := by omega
  simp only [if_pos g1, if_pos g2]
  exact c_toSS_l x hx ht x.length 0 _ (Nat.zero_add _) (by simp) (fun j hj => by omega)
theorem c_szSS_l (x : List (List Int)) (hx : x.length ≤ 1048576) (hr : ∀ r ∈ x, r.length ≤ 9223372036854775807) : ∀ (d i : Nat) (a : Int), i + d = x.length → 0 ≤ a → a ≤ 1048576 →
    ∃ z, Ev (fun k => laws_szIntSS.l0 k x a (i : Int)) z ∧ (¬ z < 0 → (cTot (x.drop i) : Int) ≤ a) := by
  intro d
  induction d with
  | zero =>
    intro i a hi h0 ha
    refine ⟨a, Ev.step (f := fun _ => some a) (fun k => ?_) (Ev.now _), fun _ => ?_⟩
    · simp only [laws_szIntSS.l0]; rw [if_neg (by omega)]
    · rw [List.drop_eq_nil_of_le (by omega)]; simpa [cTot] using h0
  | succ d ih =>
    intro i a hi h0 ha
    have hlt : i < x.length := by omega
    have hm := hr _ (List.getElem_mem hlt)
    have hw : wrap64 (a - (x[i].length : Int)) = a - (x[i].length : Int) := c_wid _ (by omega) (by omega)
    rw [List.drop_eq_getElem_cons hlt]
    by_cases hn : a - (x[i].length : Int) < 0
    · refine ⟨-1, Ev.step (f := fun _ => some (-1)) (fun k => ?_) (Ev.now _), fun h => absurd h (by decide)⟩
      simp only [laws_szIntSS.l0]
      rw [if_pos (by omega), if_pos (by omega), c_rdR, c_gR x i hlt]
      unfold laws_szIntS.f
      rw [hw, if_pos hn]; rfl
    · obtain ⟨z, h1, h2⟩ := ih (i + 1) (a - (x[i].length : Int)) (by omega) (by omega) (by omega)
      refine ⟨z, Ev.step (f := fun k => laws_szIntSS.l0 k x (a - (x[i].length : Int)) ((i + 1 : Nat) : Int)) (fun k => ?_) h1, fun h => ?_⟩
      · simp only [laws_szIntSS.l0]
        rw [if_pos (by omega), if_pos (by omega), c_rdR, c_gR x i hlt]
        unfold laws_szIntS.f
        rw [hw, if_neg hn]
        simp only [Option.bind_some]
        rw [if_neg hn, c_w1 i (by omega)]
      · have := h2 h; simp only [cTot]; omega
/-- What szIntSS tells: a number, below 0 where the rows are too long. -/
theorem c_szSS (x : List (List Int)) (hx : x.length ≤ 9223372036854775807) (hr : ∀ r ∈ x, r.length ≤ 9223372036854775807) : ∃ z, Ev (fun k => laws_szIntSS.f k x 1048576) z ∧ (¬ z < 0 → x.length ≤ 1048576 ∧ cTot x ≤ 1048576) := by
  have hw : wrap64 (1048576 - (x.length : Int)) = 1048576 - (x.length : Int) := c_wid _ (by omega) (by omega)
  by_cases hn : 1048576 - (x.length : Int) < 0
  · refine ⟨-1, Ev.congr (f := fun _ => some (-1)) (fun k => ?_) (Ev.now _), fun h => absurd h (by decide)⟩
    unfold laws_szIntSS.f; rw [hw, if_pos hn]
  · obtain ⟨z, h1, h2⟩ := c_szSS_l x (by omega) hr x.length 0 (1048576 - (x.length : Int)) (Nat.zero_add _) (by omega) (by omega)
    refine ⟨z, Ev.congr (f := fun k => laws_szIntSS.l0 k x (1048576 - (x.length : Int)) 0) (fun k => ?_) h1, fun h => ?_⟩
    · unfold laws_szIntSS.f; rw [hw, if_neg hn]
    · have := h2 h; rw [List.drop_zero] at this; omega
/-- Rows that came in, as the print reads them. -/
theorem c_rows_in {w : World} {a : Addr} {len cap : Nat} {A : Nat → Option Addr} {L C : Nat → Nat} {Z : Nat → List Int} {base : Nat} (hl : len ≤ cap) (hm : cap ≤ maxLen)
    (hrows : ∀ r, r < cap → w.cell? (a.add r) = some (.slice (A r) (L r) (C r)) ∧ L r ≤ C r ∧ C r ≤ maxLen ∧ (Z r).length = C r ∧ (∀ n ∈ Z r, (Lit.int .i64 n).wf = true) ∧ (A r = none → C r = 0) ∧ ∀ a', A r = some a' → base ≤ a'.block ∧ ∀ c, c < C r → w.cell? (a'.add c) = some (.int .i64 ((Z r).getD c 0))) :
    ∃ l1 : List (List Int), l1.length = len ∧ Kd.C (Kd.slice 3 (Kd.int .i64)) w (some a) l1.length l1 ∧ l1.length ≤ 9223372036854775807 ∧ ∀ r ∈ l1, r.length ≤ 9223372036854775807 := by
  have hmax : maxLen = 9223372036854775807 := by decide
  have hlen : ((List.range len).map fun r => (Z r).take (L r)).length = len := by simp
  refine ⟨(List.range len).map fun r => (Z r).take (L r), hlen, ⟨rfl, by rw [hlen]; omega, fun hn => ⟨a, rfl, fun j p hj => ?_⟩⟩, by rw [hlen]; omega, fun r hr => ?_⟩
  · rw [List.getElem?_map] at hj
    obtain ⟨j', hj', rfl⟩ := Option.map_eq_some_iff.1 hj
    obtain ⟨hlt, he⟩ := List.getElem?_eq_some_iff.1 hj'
    rw [List.getElem_range] at he
    subst he
    rw [List.length_range] at hlt
    obtain ⟨h1, h2, h3, h4, h5, h6, h7⟩ := hrows j (by omega)
    have hpl : ((Z j).take (L j)).length = L j := by rw [List.length_take]; omega
    refine ⟨[.slice (A j) (L j) (C j)], rfl, ⟨A j, C j, by rw [hpl], by rw [hpl]; exact h2, ?_⟩, fun i u hu => ?_⟩
    · refine Kd.C_of_reads (d := (0 : Int)) (h1 := fun _ => rfl) ⟨rfl, by rw [hpl]; omega, fun hp => ?_⟩
      cases hA : A j with
      | none => have := h6 hA; omega
      | some a' =>
        refine ⟨a', rfl, fun c hc => ?_⟩
        rw [hpl] at hc
        rw [(h7 a' hA).2 c (by omega)]
        simp [List.getD_eq_getElem?_getD, List.getElem?_take, hc]
    · cases i with
      | zero =>
        have : (Value.slice (A j) (L j) (C j)) = u := by simpa using hu
        subst this
        show w.cell? (a.add (j * 1 + 0)) = _
        rw [Nat.mul_one, Nat.add_zero]; exact h1
      | succ i => simp at hu
  · obtain ⟨j, hj, rfl⟩ := List.mem_map.1 hr
    have := List.mem_range.1 hj
    obtain ⟨h1, h2, h3, h4, _⟩ := hrows j (by omega)
    rw [List.length_take]; omega

end Go.Proofs.Ytdjaiedfcmjblaa.P
