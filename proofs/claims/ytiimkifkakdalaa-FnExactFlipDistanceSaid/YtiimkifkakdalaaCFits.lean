/- The rows of crossings of the reference are the program's; can triangulations be asked for. Conditions: order signs. -/
import Derived.Test.YtiimkifkakdalaaCXing
import Derived.Test.YtiimkifkakdalaaCSums
import Derived.Test.YtiimkifkakdalaaP108
namespace Go.Proofs.Ytiimkifkakdalaa.P
open Go.RowKit Go.Proofs.YtiimkifkakdalaaW.PrintWords Go.Proofs.YtiimkifkakdalaaW.PrintLast
set_option linter.unusedVariables false
set_option linter.unusedSimpArgs false

theorem c_plusY (acc q : Nat) (hq : q < 22) (ha : acc < 2 ^ q) : wrap64 ((acc : Int) + shl .i64 1 (IntKind.u64.wrap (q : Int))) = ((acc + 2 ^ q : Nat) : Int) := by
  have hp := (c_xshl_all q (by simpa using hq)).2
  rw [IntWalk.u64_in _ ⟨by omega, by omega⟩, c_xshl q hq, c_wid _ (by omega) (by omega)]
  omega
theorem c_edgeAtR (n : Nat) (h3 : 3 ≤ n) (h7 : n ≤ 7) (q : Nat) (hq : q < (cPairs n).length) : Ev (fun k => spec_EdgeAt.f k (n : Int) (q : Int)) ((((cPairs n).getD q (0, 0)).1 : Int), (((cPairs n).getD q (0, 0)).2 : Int)) := by
  have h := c_specEdgeAt (n : Int) (by omega) (by omega) (q : Int)
  unfold cEdgeAt at h
  rw [Int.toNat_natCast, if_pos (by omega), Int.toNat_natCast] at h
  exact h
section
variable (n : Nat) (h3 : 3 ≤ n) (h7 : n ≤ 7) (s : ByteArray) (hs : s.size = (cTrips n).length)
include h3 h7 hs
theorem c_sp1 (m : Nat) (hm : m < (cPairs n).length) (L : List Int) (hL : L.length ≤ m) (r : List Int) : ∀ (d q acc : Nat), q + d = (cPairs n).length → acc < 2 ^ q →
    Ev (fun k => spec_l10Pairs.l0 k (L ++ [((acc + cRow n s ((cPairs n).getD m (0, 0)) q d : Nat) : Int)]) ((m + 1 : Nat) : Int) (n : Int) s) r →
    Ev (fun k => spec_l10Pairs.l1 k L (m : Int) ((((cPairs n).getD m (0, 0)).1 : Nat) : Int) ((((cPairs n).getD m (0, 0)).2 : Nat) : Int) (acc : Int) (q : Int) (n : Int) s) r := by
  have hle := c_pairs_le (n : Int) (by omega) (by omega)
  rw [Int.toNat_natCast] at hle
  have h7' := c_pairs7 (n : Int) (by omega) (by omega)
  rw [Int.toNat_natCast] at h7'
  have hgx := c_pairs_get (n : Int) (by omega) (by omega)
  rw [Int.toNat_natCast] at hgx
  have hmem : ∀ q : Nat, q < (cPairs n).length → (cPairs n).getD q (0, 0) ∈ cPairs n := fun q hq => by rw [List.getD_eq_getElem?_getD, List.getElem?_eq_getElem hq]; exact List.getElem_mem _
  intro d
  induction d with
  | zero =>
    intro q acc hq ha hr
    rw [show cRow n s ((cPairs n).getD m (0, 0)) q 0 = 0 from rfl, Nat.add_zero] at hr
    refine Ev.step (fun k => ?_) hr
    simp only [spec_l10Pairs.l1]; rw [h7', if_neg (by omega), if_pos (show L.length < 17592186044416 by omega), c_w1 m (by omega)]
  | succ d ih =>
    intro q acc hq ha hr
    have hql : q < (cPairs n).length := by omega
    have hu : (0 : Int) ≤ IntKind.u64.wrap (q : Int) := by rw [IntWalk.u64_in _ ⟨by omega, by omega⟩]; omega
    rw [c_row_succ] at hr
    refine Ev.step (f := fun k => (spec_EdgeAt.f k (n : Int) (q : Int)).bind fun bt402 => (spec_l9Cross.f k (n : Int) s ((((cPairs n).getD m (0, 0)).1 : Nat) : Int) ((((cPairs n).getD m (0, 0)).2 : Nat) : Int) bt402.1 bt402.2).bind fun t404 => if t404 = true then spec_l10Pairs.l1 k L (m : Int) ((((cPairs n).getD m (0, 0)).1 : Nat) : Int) ((((cPairs n).getD m (0, 0)).2 : Nat) : Int) ((acc + 2 ^ q : Nat) : Int) ((q + 1 : Nat) : Int) (n : Int) s else spec_l10Pairs.l1 k L (m : Int) ((((cPairs n).getD m (0, 0)).1 : Nat) : Int) ((((cPairs n).getD m (0, 0)).2 : Nat) : Int) (acc : Int) ((q + 1 : Nat) : Int) (n : Int) s) (fun k => ?_) ?_
    · simp only [spec_l10Pairs.l1]; rw [h7', if_pos (show (q : Int) < ((cPairs n).length : Int) by omega), c_w1 q (by omega), c_plusY acc q (by omega) ha]
      simp only [if_pos hu]
    · refine Ev.bind (c_edgeAtR n h3 h7 q hql) (Ev.bind (c_specCx n h3 h7 s hs _ _ _ _ (hgx _ (hmem m hm)).1 (hgx _ (hmem m hm)).2 (hgx _ (hmem q hql)).1 (hgx _ (hmem q hql)).2) ?_)
      cases hc : cCx n s ((cPairs n).getD m (0, 0)) ((cPairs n).getD q (0, 0)) with
      | true =>
        have hc' : cCx n s (((cPairs n).getD m (0, 0)).1, ((cPairs n).getD m (0, 0)).2) (((cPairs n).getD q (0, 0)).1, ((cPairs n).getD q (0, 0)).2) = true := hc
        rw [if_pos hc, ← Nat.add_assoc] at hr
        simp only [hc', if_true]
        exact ih (q + 1) (acc + 2 ^ q) (by omega) (by rw [Nat.pow_succ]; omega) hr
      | false =>
        have hc' : cCx n s (((cPairs n).getD m (0, 0)).1, ((cPairs n).getD m (0, 0)).2) (((cPairs n).getD q (0, 0)).1, ((cPairs n).getD q (0, 0)).2) = false := hc
        rw [if_neg (by rw [hc]; simp), Nat.zero_add] at hr
        simp only [hc', Bool.false_eq_true, if_false]
        exact ih (q + 1) acc (by omega) (by rw [Nat.pow_succ]; omega) hr
theorem c_sp0 : ∀ (d m : Nat), m + d = (cPairs n).length → Ev (fun k => spec_l10Pairs.l0 k ((cRows n s).take m) (m : Int) (n : Int) s) (cRows n s) := by
  have h7' := c_pairs7 (n : Int) (by omega) (by omega)
  rw [Int.toNat_natCast] at h7'
  have hlr : (cRows n s).length = (cPairs n).length := by simp [cRows]
  intro d
  induction d with
  | zero =>
    intro m hm
    rw [List.take_of_length_le (by omega)]
    refine Ev.step (f := fun _ => some (cRows n s)) (fun k => ?_) (Ev.now _)
    simp only [spec_l10Pairs.l0]; rw [h7', if_neg (by omega)]
  | succ d ih =>
    intro m hm
    have hml : m < (cPairs n).length := by omega
    refine Ev.step (f := fun k => (spec_EdgeAt.f k (n : Int) (m : Int)).bind fun bt => spec_l10Pairs.l1 k ((cRows n s).take m) (m : Int) bt.1 bt.2 ((0 : Nat) : Int) ((0 : Nat) : Int) (n : Int) s) (fun k => ?_) (Ev.bind (c_edgeAtR n h3 h7 m hml) ?_)
    · simp only [spec_l10Pairs.l0]; rw [h7', if_pos (show (m : Int) < ((cPairs n).length : Int) by omega)]; rfl
    · refine c_sp1 n h3 h7 s hs m hml _ (by rw [List.length_take]; omega) _ (cPairs n).length 0 0 (by omega) (by decide) ?_
      have hget : (cRows n s)[m]? = some ((cRow n s ((cPairs n).getD m (0, 0)) 0 (cPairs n).length : Nat) : Int) := by
        unfold cRows
        rw [List.getElem?_map, List.getD_eq_getElem?_getD, List.getElem?_eq_getElem hml]; rfl
      have := ih (m + 1) (by omega)
      rw [List.take_add_one, hget] at this
      rw [Nat.zero_add]
      exact this
theorem c_specRows : Ev (fun k => spec_l10Pairs.f k (n : Int) s) (cRows n s) := by
  have h := c_sp0 n h3 h7 s hs (cPairs n).length 0 (by omega)
  exact h
end
/-- Is a set of edges full? -/
theorem c_rows_len (n : Nat) (h3 : 3 ≤ n) (h7 : n ≤ 7) (s : ByteArray) : (cRows n s).length = (cPairs n).length ∧ (cRows n s).length ≤ 100 := by
  have hle := c_pairs_le (n : Int) (by omega) (by omega)
  rw [Int.toNat_natCast] at hle
  have hlr : (cRows n s).length = (cPairs n).length := by simp [cRows]
  omega
/-- Can triangulations be asked for? -/
def cFits (n : Int) (s : ByteArray) : Bool := decide (n ≤ 6) && cAcy n s
theorem c_specFits (n : Int) (s : ByteArray) (hs : s.size ≤ 1099511627776) : Ev (fun k => spec_l10Fits.f k n s) (cFits n s) := by
  unfold spec_l10Fits.f cFits
  by_cases h : n ≤ 6
  · simp only [if_pos h, decide_eq_true h, Bool.true_and]; exact Ev.bind (c_specAcy n s hs) (Ev.now _)
  · simp only [if_neg h, decide_eq_false h, Bool.false_and]; exact Ev.now _
theorem c_fits_open (n : Int) (s : ByteArray) (h : cFits n s = true) : ∃ m : Nat, n = (m : Int) ∧ 3 ≤ m ∧ m ≤ 6 ∧ s.size = (cTrips m).length ∧ cAcy n s = true := by
  unfold cFits at h
  rw [Bool.and_eq_true, decide_eq_true_eq] at h
  obtain ⟨m, rfl, h3, h7, hz⟩ := c_acy_open n s h.2
  exact ⟨m, rfl, h3, by omega, hz, h.2⟩

end Go.Proofs.Ytiimkifkakdalaa.P
