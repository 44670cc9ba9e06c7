/- All triangulations: what the program and the reference list. Conditions: order signs of at most six elements. -/
import Derived.Test.YtjjfjdejhddcnaaCTri
import Derived.Test.YtjjfjdejhddcnaaOTris
import Derived.Test.YtjjfjdejhddcnaaP70
namespace Go.Proofs.Ytjjfjdejhddcnaa.P
open Go.RowKit Go.Proofs.YtjjfjdejhddcnaaW.PrintWords Go.Proofs.YtjjfjdejhddcnaaW.PrintLast
set_option linter.unusedVariables false
set_option linter.unusedSimpArgs false

/-- The full sets from q on. -/
def cTl (rows : List Int) (q d : Nat) : List Int := ((List.range' q d).filter fun e => cFull rows ((e : Nat) : Int)).map fun (e : Nat) => (e : Int)
theorem c_tl_succ (rows : List Int) (q d : Nat) : cTl rows q (d + 1) = (if cFull rows (q : Int) = true then [(q : Int)] else []) ++ cTl rows (q + 1) d := by
  unfold cTl
  rw [List.range'_succ, List.filter_cons]
  split <;> rfl
theorem c_tl_add (rows : List Int) (q a b : Nat) : cTl rows q (a + b) = cTl rows q a ++ cTl rows (q + a) b := by
  unfold cTl
  rw [← List.map_append, ← List.filter_append, ← List.range'_append_1]
theorem c_tl_len (rows : List Int) (q d : Nat) : (cTl rows q d).length ≤ d := by
  unfold cTl
  rw [List.length_map]
  refine Nat.le_trans (List.length_filter_le _ _) ?_
  rw [List.length_range']; exact Nat.le_refl _
theorem c_tl_nil (rows : List Int) (q d : Nat) (h : ∀ e, q ≤ e → e < q + d → cFull rows (e : Int) = false) : cTl rows q d = [] := by
  unfold cTl
  rw [List.map_eq_nil_iff, List.filter_eq_nil_iff]
  intro e he
  rw [List.mem_range'_1] at he
  rw [h e he.1 he.2]; simp
theorem c_implTris_l (rows : List Int) (hl : rows.length ≤ 15) (E : Nat) (hE : E ≤ 15) : ∀ (d q : Nat) (o : List Int), q + d = 2 ^ E → o.length ≤ q →
    Ev (fun k => impl_Triangulations.l0 k rows (2 ^ E - 1) (q : Int) o) (o ++ cTl rows q d) := by
  have h15 : 2 ^ E ≤ 2 ^ 15 := Nat.pow_le_pow_right (by decide) hE
  have hc : ((2 : Int) ^ E - 1) = ((2 ^ E : Nat) : Int) - 1 := by rw [Int.natCast_pow]; rfl
  rw [hc]
  intro d
  induction d with
  | zero =>
    intro q o hq ho
    rw [show cTl rows q 0 = [] from rfl, List.append_nil]
    refine Ev.step (f := fun _ => some o) (fun k => ?_) (Ev.now _)
    simp only [impl_Triangulations.l0]; rw [if_neg (by omega)]
  | succ d ih =>
    intro q o hq ho
    rw [c_tl_succ]
    have h0 := ih (q + 1) o (by omega) (by omega)
    have h1 := ih (q + 1) (o ++ [(q : Int)]) (by omega) (by rw [List.length_append, List.length_singleton]; omega)
    rw [List.append_assoc] at h1
    refine Ev.step (f := fun k => (impl_plane_isFull.f k rows (q : Int)).bind fun b => if b = true then impl_Triangulations.l0 k rows (((2 ^ E : Nat) : Int) - 1) ((q + 1 : Nat) : Int) (o ++ [(q : Int)]) else impl_Triangulations.l0 k rows (((2 ^ E : Nat) : Int) - 1) ((q + 1 : Nat) : Int) o) (fun k => ?_) (Ev.bind (c_implFull rows (q : Int) (by omega)) ?_)
    · simp only [impl_Triangulations.l0]
      rw [if_pos (show (q : Int) ≤ ((2 ^ E : Nat) : Int) - 1 by omega), c_w1 q (by omega)]
      simp only [if_pos (show o.length < 17592186044416 by omega)]
    · cases hf : cFull rows (q : Int) with
      | true => simp only [if_true]; exact h1
      | false => simp only [Bool.false_eq_true, if_false, List.nil_append]; exact h0
/-- Row q of crossings. -/
def cRq (n : Nat) (s : ByteArray) (q : Nat) : Nat := cRow n s ((cPairs n).getD q (0, 0)) 0 (cPairs n).length
theorem c_rows_get (n : Nat) (s : ByteArray) (q : Nat) (hq : q < (cPairs n).length) : (cRows n s).getD q 0 = ((cRq n s q : Nat) : Int) := by
  unfold cRows cRq
  rw [List.getD_eq_getElem?_getD, List.getElem?_map, List.getD_eq_getElem?_getD, List.getElem?_eq_getElem hq]; rfl
theorem c_sum_lt2 (f : Nat → Bool) : ∀ (d : Nat), cSum f 0 d < 2 ^ d := by
  intro d
  induction d with
  | zero => simp [cSum]
  | succ d ih =>
    have e : cSum f 0 (d + 1) = cSum f 0 d + (if f d = true then 2 ^ d else 0) := by
      unfold cSum; rw [List.range'_concat, List.map_append, List.sum_append]; simp
    rw [e, Nat.pow_succ]
    split <;> omega
theorem c_rq_lt (n : Nat) (s : ByteArray) (q : Nat) : cRq n s q < 2 ^ (cPairs n).length := c_sum_lt2 _ _
theorem c_andN (a b : Nat) (ha : a < 1099511627776) (hb : b < 1099511627776) : Go.bits .and .i64 (a : Int) (b : Int) = ((a &&& b : Nat) : Int) := (bits_nat .i64 40 (by decide) (fun n h0 h1 => by rw [IntKind.wrap_i64]; omega) a b (by omega) (by omega)).1
theorem c_pairs6 (n : Nat) (h3 : 3 ≤ n) (h6 : n ≤ 6) : (cPairs n).length ≤ 15 := by
  have : n = 3 ∨ n = 4 ∨ n = 5 ∨ n = 6 := by omega
  rcases this with rfl | rfl | rfl | rfl <;> decide
theorem c_full_at (n : Nat) (h3 : 3 ≤ n) (h6 : n ≤ 6) (s : ByteArray) (e : Nat) (he : e < 1099511627776) (h : cFull (cRows n s) (e : Int) = true) (q : Nat) (hq : q < (cPairs n).length) : e.testBit q = (cRq n s q &&& e == 0) := by
  have h15 := c_pairs6 n h3 h6
  have hlr := (c_rows_len n h3 (by omega) s).1
  have hrq := c_rq_lt n s q
  have hp : 2 ^ (cPairs n).length ≤ 2 ^ 15 := Nat.pow_le_pow_right (by decide) h15
  unfold cFull cFl at h
  rw [List.all_eq_true] at h
  have h1 := h q (by rw [List.mem_range'_1]; omega)
  rw [c_cBit e q he (by omega), c_rows_get n s q hq, c_andN _ _ (by omega) he] at h1
  have h2 : (((cRq n s q &&& e : Nat) : Int) == 0) = (cRq n s q &&& e == 0) := by
    rw [Bool.eq_iff_iff]; simp only [beq_iff_eq]; omega
  rw [h2] at h1
  simpa using h1
theorem c_high (j B r i : Nat) (hr : r < 2 ^ j) (hi : j ≤ i) : (2 ^ j * B + r).testBit i = B.testBit (i - j) := by
  rw [Nat.testBit_two_pow_mul_add B hr, if_neg (by omega)]
theorem c_specTris (n : Nat) (h3 : 3 ≤ n) (h6 : n ≤ 6) (s : ByteArray) : ∀ (j B : Nat) (out : List Int), j ≤ (cPairs n).length → 2 ^ j * B + 2 ^ j ≤ 32768 → out.length ≤ 2 ^ j * B →
    Ev (fun k => spec_l10All.f k (cRows n s) ((j : Int) - 1) ((2 ^ j * B : Nat) : Int) out) (out ++ cTl (cRows n s) (2 ^ j * B) (2 ^ j)) := by
  have h15 := c_pairs6 n h3 h6
  have hlr := (c_rows_len n h3 (by omega) s).1
  intro j
  induction j with
  | zero =>
    intro B out hj hB ho
    rw [show 2 ^ 0 = 0 + 1 from rfl, c_tl_succ, show cTl (cRows n s) ((0 + 1) * B + 1) 0 = [] from rfl, List.append_nil]
    refine Ev.step (f := fun k => (spec_l10Full.f k (cRows n s) (((0 + 1) * B : Nat) : Int)).bind fun t => if t = true then some (out ++ [(((0 + 1) * B : Nat) : Int)]) else some out) (fun k => ?_) (Ev.bind (c_specFull _ _ (by omega)) ?_)
    · simp only [spec_l10All.f]
      rw [if_pos (by omega)]
      simp only [if_pos (show out.length < 17592186044416 by omega)]
    · cases hf : cFull (cRows n s) (((0 + 1) * B : Nat) : Int) with
      | true => simp only [if_true]; exact Ev.now _
      | false => simp only [Bool.false_eq_true, if_false, List.append_nil]; exact Ev.now _
  | succ j ih =>
    intro B out hj hB ho
    have hjl : j < (cPairs n).length := by omega
    have hp2 : 2 ^ (j + 1) = 2 * 2 ^ j := by rw [Nat.pow_succ, Nat.mul_comm]
    have e0 : 2 ^ (j + 1) * B = 2 ^ j * (2 * B) := by rw [hp2]; rw [Nat.mul_comm 2, Nat.mul_assoc]
    have e1 : 2 ^ (j + 1) * B + 2 ^ j = 2 ^ j * (2 * B + 1) := by rw [e0, Nat.mul_add, Nat.mul_one]
    have hrq := c_rq_lt n s j
    have hp15 : 2 ^ (cPairs n).length ≤ 2 ^ 15 := Nat.pow_le_pow_right (by decide) h15
    have hrd : rd (cRows n s) (j : Int) = ((cRq n s j : Nat) : Int) := by rw [c_rd]; exact c_rows_get n s j hjl
    have hand : Go.bits .and .i64 ((cRq n s j : Nat) : Int) ((2 ^ (j + 1) * B : Nat) : Int) = ((cRq n s j &&& 2 ^ (j + 1) * B : Nat) : Int) := c_andN _ _ (by omega) (by omega)
    have hu : (0 : Int) ≤ IntKind.u64.wrap (j : Int) := by rw [IntWalk.u64_in _ ⟨by omega, by omega⟩]; omega
    have hsh : wrap64 (((2 ^ (j + 1) * B : Nat) : Int) + shl .i64 1 (IntKind.u64.wrap (j : Int))) = ((2 ^ (j + 1) * B + 2 ^ j : Nat) : Int) := by
      have hpj := (c_xshl_all j (by simp; omega)).2
      rw [IntWalk.u64_in _ ⟨by omega, by omega⟩, c_xshl j (by omega), c_wid _ (by omega) (by omega)]; omega
    have hm1 : wrap64 (((j + 1 : Nat) : Int) - 1 - 1) = (j : Int) - 1 := by rw [c_wid _ (by omega) (by omega)]; omega
    have hj1 : ((j + 1 : Nat) : Int) - 1 = (j : Int) := by omega
    have hsplit : cTl (cRows n s) (2 ^ (j + 1) * B) (2 ^ (j + 1)) = cTl (cRows n s) (2 ^ (j + 1) * B) (2 ^ j) ++ cTl (cRows n s) (2 ^ (j + 1) * B + 2 ^ j) (2 ^ j) := by
      rw [← c_tl_add]; congr 1; omega
    have hpre : ∀ k, spec_l10All.f (k + 1) (cRows n s) (((j + 1 : Nat) : Int) - 1) ((2 ^ (j + 1) * B : Nat) : Int) out = if cRq n s j = 0 then (if (cRq n s j &&& 2 ^ (j + 1) * B) = 0 then (spec_l10All.f k (cRows n s) ((j : Int) - 1) ((2 ^ (j + 1) * B + 2 ^ j : Nat) : Int) out).bind (fun t => some t) else some out) else (spec_l10All.f k (cRows n s) ((j : Int) - 1) ((2 ^ (j + 1) * B : Nat) : Int) out).bind fun t => if (cRq n s j &&& 2 ^ (j + 1) * B) = 0 then (spec_l10All.f k (cRows n s) ((j : Int) - 1) ((2 ^ (j + 1) * B + 2 ^ j : Nat) : Int) t).bind (fun t => some t) else some t := by
      intro k
      simp only [spec_l10All.f]
      rw [if_neg (show ¬ ((j + 1 : Nat) : Int) - 1 < 0 by omega), hm1, hj1, if_pos (show (0 : Int) ≤ (j : Int) by omega), if_pos (show (j : Int) < ((cRows n s).length : Int) by omega), hrd, hand, hsh]
      simp only [if_pos hu, Int.natCast_eq_zero]
    have hlo := ih (2 * B) out (by omega) (by omega) (by omega)
    rw [← e0] at hlo
    have hhi : ∀ t : List Int, t.length ≤ 2 ^ (j + 1) * B + 2 ^ j → Ev (fun k => spec_l10All.f k (cRows n s) ((j : Int) - 1) ((2 ^ (j + 1) * B + 2 ^ j : Nat) : Int) t) (t ++ cTl (cRows n s) (2 ^ (j + 1) * B + 2 ^ j) (2 ^ j)) := by
      intro t ht
      have := ih (2 * B + 1) t (by omega) (by omega) (by omega)
      rw [← e1] at this
      exact this
    rw [hsplit]
    by_cases hC : cRq n s j = 0
    · refine Ev.step (f := fun k => (spec_l10All.f k (cRows n s) ((j : Int) - 1) ((2 ^ (j + 1) * B + 2 ^ j : Nat) : Int) out).bind fun t => some t) (fun k => by rw [hpre, if_pos hC, if_pos (by rw [hC, Nat.zero_and])]) ?_
      have hz : cTl (cRows n s) (2 ^ (j + 1) * B) (2 ^ j) = [] := by
        refine c_tl_nil _ _ _ (fun e h1 h2 => ?_)
        cases hf : cFull (cRows n s) (e : Int) with
        | false => rfl
        | true =>
          have := c_full_at n h3 h6 s e (by omega) hf j hjl
          rw [hC, Nat.zero_and] at this
          obtain ⟨r, rfl⟩ : ∃ r, e = 2 ^ j * (2 * B) + r := ⟨e - 2 ^ j * (2 * B), by omega⟩
          rw [c_high j (2 * B) r j (by omega) (Nat.le_refl _), Nat.sub_self, Nat.testBit_zero] at this
          simp at this
      rw [hz, List.nil_append]
      exact Ev.bind (hhi out (by omega)) (Ev.now _)
    · refine Ev.step (fun k => by rw [hpre, if_neg hC]) (Ev.bind hlo ?_)
      have hol : (out ++ cTl (cRows n s) (2 ^ (j + 1) * B) (2 ^ j)).length ≤ 2 ^ (j + 1) * B + 2 ^ j := by
        have := c_tl_len (cRows n s) (2 ^ (j + 1) * B) (2 ^ j)
        rw [List.length_append]; omega
      by_cases hD : cRq n s j &&& 2 ^ (j + 1) * B = 0
      · simp only [if_pos hD]
        rw [← List.append_assoc]
        exact Ev.bind (hhi _ hol) (Ev.now _)
      · simp only [if_neg hD]
        have hz : cTl (cRows n s) (2 ^ (j + 1) * B + 2 ^ j) (2 ^ j) = [] := by
          refine c_tl_nil _ _ _ (fun e h1 h2 => ?_)
          cases hf : cFull (cRows n s) (e : Int) with
          | false => rfl
          | true =>
            exfalso
            have hx := c_full_at n h3 h6 s e (by omega) hf j hjl
            obtain ⟨r, rfl⟩ : ∃ r, e = 2 ^ j * (2 * B + 1) + r := ⟨e - 2 ^ j * (2 * B + 1), by omega⟩
            rw [c_high j (2 * B + 1) r j (by omega) (Nat.le_refl _), Nat.sub_self, Nat.testBit_zero] at hx
            have hx2 : cRq n s j &&& (2 ^ j * (2 * B + 1) + r) = 0 := by
              have h3 : decide ((2 * B + 1) % 2 = 1) = true := decide_eq_true (by omega)
              rw [h3] at hx
              exact beq_iff_eq.1 hx.symm
            apply hD
            apply Nat.eq_of_testBit_eq
            intro i
            rw [Nat.zero_testBit, Nat.testBit_and]
            by_cases hi : j + 1 ≤ i
            · have h4 := congrArg (fun x => Nat.testBit x i) hx2
              simp only [Nat.testBit_and, Nat.zero_testBit] at h4
              have e2 : 2 ^ j * (2 * B + 1) + r = 2 ^ (j + 1) * B + (2 ^ j + r) := by rw [← e1]; omega
              rw [e2, c_high (j + 1) B (2 ^ j + r) i (by omega) hi] at h4
              have h5 := c_high (j + 1) B 0 i (Nat.two_pow_pos _) hi
              rw [Nat.add_zero] at h5
              rw [h5]; exact h4
            · have h5 : (2 ^ (j + 1) * B).testBit i = false := by
                have := Nat.testBit_two_pow_mul_add B (show 0 < 2 ^ (j + 1) from Nat.two_pow_pos _) i
                rw [Nat.add_zero, if_pos (by omega), Nat.zero_testBit] at this
                exact this
              rw [h5, Bool.and_false]
        rw [hz, List.append_nil]
        exact Ev.now _
/-- What Triangulations lists. -/
def cTs (n : Int) (s : ByteArray) : List Int := if cFits n s = true then cTl (cRows n.toNat s) 0 (2 ^ (cPairs n.toNat).length) else []
theorem c_ts_len (n : Int) (s : ByteArray) : (cTs n s).length ≤ 1099511627776 := by
  unfold cTs
  split
  · rename_i h
    obtain ⟨m, rfl, h3, h6, hz, hA⟩ := c_fits_open n s h
    have h15 := c_pairs6 m h3 h6
    have hp : 2 ^ (cPairs m).length ≤ 2 ^ 15 := Nat.pow_le_pow_right (by decide) h15
    have := c_tl_len (cRows m s) 0 (2 ^ (cPairs m).length)
    rw [Int.toNat_natCast]; omega
  · simp
theorem c_implTriangulations (n : Int) (s : ByteArray) (hs : s.size ≤ 1099511627776) : Ev (fun k => impl_Triangulations.f k n s) (cTs n s) := by
  unfold impl_Triangulations.f cTs
  refine Ev.bind (c_planeOf n s hs) ?_
  by_cases h : cFits n s = true
  · obtain ⟨m, rfl, h3, h6, hz, hA⟩ := c_fits_open n s h
    have h15 := c_pairs6 m h3 h6
    have hlr := (c_rows_len m h3 (by omega) s).1
    simp only [h, if_true, Int.toNat_natCast]
    exact c_implTris_l (cRows m s) (by omega) (cPairs m).length h15 (2 ^ (cPairs m).length) 0 [] (by omega) (by simp)
  · rw [Bool.not_eq_true] at h
    simp only [h, Bool.false_eq_true, if_false]; exact Ev.now _
theorem c_specTriangulations (n : Int) (s : ByteArray) (hs : s.size ≤ 1099511627776) : Ev (fun k => spec_Triangulations.f k n s) (cTs n s) := by
  unfold spec_Triangulations.f cTs
  refine Ev.bind (c_specFits n s hs) ?_
  by_cases h : cFits n s = true
  · obtain ⟨m, rfl, h3, h6, hz, hA⟩ := c_fits_open n s h
    have h15 := c_pairs6 m h3 h6
    have hp : 2 ^ (cPairs m).length ≤ 2 ^ 15 := Nat.pow_le_pow_right (by decide) h15
    have hlr := (c_rows_len m h3 (by omega) s).1
    simp only [h, if_true, Int.toNat_natCast]
    refine Ev.bind (c_specRows m h3 (by omega) s hz) ?_
    have hx := c_specTris m h3 h6 s (cPairs m).length 0 [] (Nat.le_refl _) (by rw [Nat.mul_zero]; omega) (by simp)
    rw [Nat.mul_zero, List.nil_append] at hx
    have hw : wrap64 (((cRows m s).length : Int) - 1) = ((cPairs m).length : Int) - 1 := by rw [c_wid _ (by omega) (by omega)]; omega
    rw [hw]
    exact Ev.bind hx (Ev.now _)
  · rw [Bool.not_eq_true] at h
    simp only [h, Bool.false_eq_true, if_false]; exact Ev.now _

end Go.Proofs.Ytjjfjdejhddcnaa.P
