/- Triangulations: what the program and the reference call full. Conditions: order signs. -/
import Derived.Test.YtiimkifkakdalaaCFits
import Derived.Test.YtiimkifkakdalaaOFull
import Derived.Test.YtiimkifkakdalaaP77
namespace Go.Proofs.Ytiimkifkakdalaa.P
open Go.RowKit Go.Proofs.YtiimkifkakdalaaW.PrintWords Go.Proofs.YtiimkifkakdalaaW.PrintLast
set_option linter.unusedVariables false
set_option linter.unusedSimpArgs false

def cFl (rows : List Int) (e : Int) (q d : Nat) : Bool := (List.range' q d).all fun q => !(cBit e q != (Go.bits .and .i64 (rows.getD q 0) e == 0))
def cFull (rows : List Int) (e : Int) : Bool := cFl rows e 0 rows.length
theorem c_fl_succ (rows : List Int) (e : Int) (q d : Nat) : cFl rows e q (d + 1) = (!(cBit e q != (Go.bits .and .i64 (rows.getD q 0) e == 0)) && cFl rows e (q + 1) d) := by
  unfold cFl; rw [List.range'_succ, List.all_cons]
theorem c_specFull_l (rows : List Int) (e : Int) (hl : rows.length ≤ 100) : ∀ (d q : Nat), q + d = rows.length → Ev (fun k => spec_l10Full.l0 k rows e (q : Int)) (cFl rows e q d) := by
  intro d
  induction d with
  | zero =>
    intro q hq
    refine Ev.step (f := fun _ => some true) (fun k => ?_) (Ev.now _)
    simp only [spec_l10Full.l0]; rw [if_neg (by omega)]
  | succ d ih =>
    intro q hq
    rw [c_fl_succ]
    refine Ev.step (f := fun k => if (cBit e q != (Go.bits .and .i64 (rows.getD q 0) e == 0)) = true then some false else spec_l10Full.l0 k rows e ((q + 1 : Nat) : Int)) (fun k => ?_) ?_
    · simp only [spec_l10Full.l0]
      rw [if_pos (show (q : Int) < (rows.length : Int) by omega), c_has e q (by omega), c_rd, c_w1 q (by omega)]
      simp only [Option.bind_some, if_pos (show (0 : Int) ≤ (q : Int) by omega)]
    · cases hc : (cBit e q != (Go.bits .and .i64 (rows.getD q 0) e == 0)) with
      | true => simp only [if_true, Bool.not_true, Bool.false_and]; exact Ev.now _
      | false => simp only [Bool.false_eq_true, if_false, Bool.not_false, Bool.true_and]; exact ih (q + 1) (by omega)
theorem c_specFull (rows : List Int) (e : Int) (hl : rows.length ≤ 100) : Ev (fun k => spec_l10Full.f k rows e) (cFull rows e) := c_specFull_l rows e hl rows.length 0 (by omega)
theorem c_implFull_l (rows : List Int) (e : Int) (hl : rows.length ≤ 100) : ∀ (d q : Nat), q + d = rows.length → Ev (fun k => impl_plane_isFull.l0 k e rows (q : Int)) (cFl rows e q d) := by
  intro d
  induction d with
  | zero =>
    intro q hq
    refine Ev.step (f := fun _ => some true) (fun k => ?_) (Ev.now _)
    simp only [impl_plane_isFull.l0]; rw [if_neg (by omega)]
  | succ d ih =>
    intro q hq
    rw [c_fl_succ]
    refine Ev.step (f := fun k => if (cBit e q != (Go.bits .and .i64 (rows.getD q 0) e == 0)) = true then some false else impl_plane_isFull.l0 k e rows ((q + 1 : Nat) : Int)) (fun k => ?_) ?_
    · simp only [impl_plane_isFull.l0]
      rw [if_pos (show (q : Int) < (rows.length : Int) by omega), if_pos (show (0 : Int) ≤ (q : Int) by omega), c_rd, c_w1 q (by omega)]
      rfl
    · cases hc : (cBit e q != (Go.bits .and .i64 (rows.getD q 0) e == 0)) with
      | true => simp only [if_true, Bool.not_true, Bool.false_and]; exact Ev.now _
      | false => simp only [Bool.false_eq_true, if_false, Bool.not_false, Bool.true_and]; exact ih (q + 1) (by omega)
theorem c_implFull (rows : List Int) (e : Int) (hl : rows.length ≤ 100) : Ev (fun k => impl_plane_isFull.f k rows e) (cFull rows e) := c_implFull_l rows e hl rows.length 0 (by omega)
/-- What IsTriangulation answers. -/
def cTri (n : Int) (s : ByteArray) (e : Int) : Bool := cFits n s && decide (cES n e) && cFull (cRows n.toNat s) e
theorem c_specTri (n : Int) (s : ByteArray) (hs : s.size ≤ 1099511627776) (e : Int) : Ev (fun k => spec_IsTriangulation.f k n s e) (cTri n s e) := by
  unfold spec_IsTriangulation.f cTri
  refine Ev.bind (c_specFits n s hs) ?_
  by_cases h : cFits n s = true
  · obtain ⟨m, rfl, h3, h6, hz, hA⟩ := c_fits_open n s h
    have hl := c_l1InSet (m : Int) (by omega) (by omega) e
    rw [c_specAll (m : Int) (by omega) (by omega), Option.bind_some, Int.toNat_natCast] at hl
    simp only [h, if_true, c_specAll (m : Int) (by omega) (by omega), Option.bind_some, hl, Bool.true_and, Int.toNat_natCast]
    by_cases he : cES (m : Int) e
    · simp only [he, decide_true, if_true, Bool.true_and]
      exact Ev.bind (c_specRows m h3 (by omega) s hz) (Ev.bind (c_specFull _ e (c_rows_len m h3 (by omega) s).2) (Ev.now _))
    · simp only [he, decide_false, Bool.false_eq_true, if_false, Bool.false_and]; exact Ev.now _
  · rw [Bool.not_eq_true] at h
    simp only [h, Bool.false_eq_true, if_false, Bool.false_and]; exact Ev.now _

end Go.Proofs.Ytiimkifkakdalaa.P
