/- Plain laws of wirings: the reference's and the program's IsWiring both tell 'cIsW'. Conditions: the list has at most 2^40 places. -/
import Derived.Test.YtmidcafamppkeaaDoorCBase
import Derived.Test.YtmidcafamppkeaaDoorP10
import Derived.Test.YtmidcafamppkeaaDoorOSwap
import Derived.Test.YtmidcafamppkeaaDoorP4
namespace Go.Proofs.YtmidcafamppkeaaDoor.P
open Go.RowKit Go.Proofs.YtmidcafamppkeaaDoorW.PrintWords Go.Proofs.YtmidcafamppkeaaDoorW.PrintLast
set_option linter.unusedVariables false

/-- The wires in their first order. -/
def cStart (n : Nat) : List Int := (List.range n).map fun (i : Nat) => (i : Int)
/-- The exchange at a place. -/
def cSwap (ws : List Int) (p : Nat) : List Int := (ws.set p (ws.getD (p + 1) 0)).set (p + 1) (ws.getD p 0)
/-- Whether the exchange at a place can be done. -/
def cOk (ws : List Int) (p : Int) : Prop := 0 ≤ p ∧ p ≤ (ws.length : Int) - 2 ∧ ws.getD p.toNat 0 ≤ ws.getD (p.toNat + 1) 0
instance (ws : List Int) (p : Int) : Decidable (cOk ws p) := by unfold cOk; exact inferInstance
/-- Whether a list of exchanges can be done. -/
def cRun : List Int → List Int → Bool
  | _, [] => true
  | ws, p :: w => if cOk ws p then cRun (cSwap ws p.toNat) w else false
/-- The wires behind a list of exchanges. -/
def cAfter : List Int → List Int → List Int
  | ws, [] => ws
  | ws, p :: w => cAfter (cSwap ws p.toNat) w
def cIsW (n : Int) (w : List Int) : Bool := decide (3 ≤ n ∧ n ≤ 6 ∧ (w.length : Int) = n * (n - 1) / 2) && cRun (cStart n.toNat) w
theorem cSwap_length (ws : List Int) (p : Nat) : (cSwap ws p).length = ws.length := by simp [cSwap]
theorem cStart_length (n : Nat) : (cStart n).length = n := by simp [cStart]
theorem cAfter_length (w : List Int) : ∀ ws, (cAfter ws w).length = ws.length := by
  induction w with
  | nil => intro ws; rfl
  | cons p w ih => intro ws; simp only [cAfter]; rw [ih, cSwap_length]

theorem c_swap (ws : List Int) (p : Int) (hn : 2 ≤ ws.length) (hl : ws.length ≤ 1099511627776) :
    spec_l12Swap.f ws p = some (if cOk ws p then (true, cSwap ws p.toNat) else (false, ws)) := by
  unfold spec_l12Swap.f spec_l1In.f
  rw [c_wid ((ws.length : Int) - 2) (by omega) (by omega)]
  by_cases h0 : p ≥ 0
  · rw [if_pos h0]; simp only [Option.bind_some]
    by_cases h1 : p ≤ (ws.length : Int) - 2
    · obtain ⟨q, rfl⟩ : ∃ q : Nat, p = (q : Int) := ⟨p.toNat, by omega⟩
      rw [if_pos (decide_eq_true h1), if_pos h0, if_pos (by omega), c_w1 q (by omega), if_pos (by omega), if_pos (by omega), c_rd, c_rd]
      by_cases h2 : ws.getD q 0 > ws.getD (q + 1) 0
      · rw [if_pos h2, if_neg (by unfold cOk; simp only [Int.toNat_natCast]; omega)]
      · rw [if_neg h2, if_pos (by unfold cOk; simp only [Int.toNat_natCast]; omega)]
        simp [cSwap]
    · rw [if_neg (by simpa using h1), if_neg (by unfold cOk; omega)]
  · rw [if_neg h0]; simp only [Option.bind_some]
    rw [if_neg (by simp), if_neg (by unfold cOk; omega)]

theorem c_start (n : Int) (h3 : 3 ≤ n) (h6 : n ≤ 6) : Ev (fun k => spec_l12Start.f k n) (cStart n.toNat) := by
  have : n = 3 ∨ n = 4 ∨ n = 5 ∨ n = 6 := by omega
  rcases this with rfl | rfl | rfl | rfl <;> exact Ev.of (spec_l12Start.mono _) (k := 12) (by decide +kernel)
theorem c_upTo (n : Int) (h3 : 3 ≤ n) (h6 : n ≤ 6) : Ev (fun k => impl_upTo.f k n) (cStart n.toNat) := by
  have : n = 3 ∨ n = 4 ∨ n = 5 ∨ n = 6 := by omega
  rcases this with rfl | rfl | rfl | rfl <;> exact Ev.of (impl_upTo.mono _) (k := 12) (by decide +kernel)
theorem c_pairs (n : Int) (h3 : 3 ≤ n) (h6 : n ≤ 6) : wrap64 (Int.tdiv (wrap64 (n * (wrap64 (n - 1)))) 2) = n * (n - 1) / 2 := by
  have : n = 3 ∨ n = 4 ∨ n = 5 ∨ n = 6 := by omega
  rcases this with rfl | rfl | rfl | rfl <;> decide +kernel

theorem c_drop (w : List Int) (i : Nat) (h : i < w.length) : w.drop i = w.getD i 0 :: w.drop (i + 1) := by
  rw [List.drop_eq_getElem_cons h, List.getD_eq_getElem?_getD, List.getElem?_eq_getElem h]; rfl

theorem c_isWiring_l (w : List Int) (hw : w.length ≤ 1099511627776) : ∀ (d i : Nat) (ws : List Int), i + d = w.length → 2 ≤ ws.length → ws.length ≤ 1000 →
    Ev (fun k => spec_IsWiring.l0 k w ws (i : Int)) (cRun ws (w.drop i)) := by
  intro d
  induction d with
  | zero =>
    intro i ws hi hn hn2
    rw [List.drop_eq_nil_of_le (by omega)]
    refine Ev.step (f := fun _ => some true) (fun k => ?_) (Ev.now _)
    simp only [spec_IsWiring.l0]; rw [if_neg (by omega)]
  | succ d ih =>
    intro i ws hi hn hn2
    rw [c_drop w i (by omega)]
    by_cases h : cOk ws (w.getD i 0)
    · refine Ev.step (f := fun k => spec_IsWiring.l0 k w (cSwap ws (w.getD i 0).toNat) ((i + 1 : Nat) : Int)) (fun k => ?_) ?_
      · simp only [spec_IsWiring.l0]; rw [if_pos (by omega), if_pos (by omega), c_rd, c_swap ws _ hn (by omega), if_pos h, c_w1 i (by omega)]; rfl
      · simp only [cRun]; rw [if_pos h]
        exact ih (i + 1) _ (by omega) (by rw [cSwap_length]; exact hn) (by rw [cSwap_length]; exact hn2)
    · refine Ev.step (f := fun _ => some false) (fun k => ?_) ?_
      · simp only [spec_IsWiring.l0]; rw [if_pos (by omega), if_pos (by omega), c_rd, c_swap ws _ hn (by omega), if_neg h]; rfl
      · simp only [cRun]; rw [if_neg h]; exact Ev.now _

theorem c_isWiring (n : Int) (w : List Int) (hw : w.length ≤ 1099511627776) : Ev (fun k => spec_IsWiring.f k n w) (cIsW n w) := by
  unfold spec_IsWiring.f spec_l1In.f
  by_cases h3 : n ≥ 3
  · by_cases h6 : n ≤ 6
    · simp only [if_pos h3, decide_eq_true h6, Option.bind_some, if_true]
      rw [c_pairs n h3 h6]
      by_cases hl : (w.length : Int) = n * (n - 1) / 2
      · rw [show ((w.length : Int) != n * (n - 1) / 2) = false by simpa using hl]
        refine Ev.step (f := fun k => (spec_l12Start.f k n).bind fun t => spec_IsWiring.l0 k w t 0) (fun k => ?_) ?_
        · simp only [spec_IsWiring.j0]; rfl
        · refine Ev.bind (c_start n h3 h6) ?_
          have := c_isWiring_l w hw w.length 0 (cStart n.toNat) (by omega) (by rw [cStart_length]; omega) (by rw [cStart_length]; omega)
          unfold cIsW
          rw [decide_eq_true ⟨h3, h6, hl⟩]; simpa using this
      · rw [show ((w.length : Int) != n * (n - 1) / 2) = true by simpa using hl]
        refine Ev.step (f := fun k => some false) (fun k => ?_) ?_
        · simp only [spec_IsWiring.j0]; rfl
        · unfold cIsW; rw [decide_eq_false (fun h => hl h.2.2)]; exact Ev.now _
    · simp only [if_pos h3, decide_eq_false h6, Option.bind_some, Bool.false_eq_true, if_false]
      refine Ev.step (f := fun k => some false) (fun k => ?_) ?_
      · simp only [spec_IsWiring.j0]; rfl
      · unfold cIsW; rw [decide_eq_false (fun h => h6 h.2.1)]; exact Ev.now _
  · simp only [if_neg h3, Option.bind_some, Bool.false_eq_true, if_false]
    refine Ev.step (f := fun k => some false) (fun k => ?_) ?_
    · simp only [spec_IsWiring.j0]; rfl
    · unfold cIsW; rw [decide_eq_false (fun h => h3 h.1)]; exact Ev.now _

theorem c_run_l (n : Int) (w : List Int) (hw : w.length ≤ 1099511627776) (h3 : 3 ≤ n) (h6 : n ≤ 6) : ∀ (d i : Nat) (ws : List Int), i + d = w.length → (ws.length : Int) = n →
    Ev (fun k => impl_run.l0 k n ws w (w.length : Int) (i : Int)) (cRun ws (w.drop i)) := by
  intro d
  induction d with
  | zero =>
    intro i ws hi hn
    rw [List.drop_eq_nil_of_le (by omega)]
    refine Ev.step (f := fun _ => some true) (fun k => ?_) (Ev.now _)
    simp only [impl_run.l0]; rw [if_neg (by omega)]
  | succ d ih =>
    intro i ws hi hn
    rw [c_drop w i (by omega)]
    simp only [cRun]
    by_cases h0 : w.getD i 0 < 0
    · rw [if_neg (by unfold cOk; omega)]
      refine Ev.step (f := fun _ => some false) (fun k => ?_) (Ev.now _)
      simp only [impl_run.l0]; rw [if_pos (by omega), if_pos (by omega), if_pos (by omega), c_rd, if_pos h0]
    · by_cases h1 : w.getD i 0 > n - 2
      · rw [if_neg (by unfold cOk; omega)]
        refine Ev.step (f := fun _ => some false) (fun k => ?_) (Ev.now _)
        simp only [impl_run.l0]; rw [if_pos (by omega), if_pos (by omega), if_pos (by omega), c_rd, if_neg h0, c_wid (n - 2) (by omega) (by omega), if_pos h1]
      · obtain ⟨q, hq⟩ : ∃ q : Nat, w.getD i 0 = (q : Int) := ⟨(w.getD i 0).toNat, by omega⟩
        rw [hq] at h0 h1
        by_cases h2 : ws.getD q 0 > ws.getD (q + 1) 0
        · rw [if_neg (by rw [hq]; unfold cOk; simp only [Int.toNat_natCast]; omega)]
          refine Ev.step (f := fun _ => some false) (fun k => ?_) (Ev.now _)
          simp only [impl_run.l0]; rw [if_pos (by omega), if_pos (by omega), if_pos (by omega), c_rd, hq, if_neg h0, c_wid (n - 2) (by omega) (by omega), if_neg h1, if_pos (by omega), if_pos (by omega), c_w1 q (by omega), if_pos (by omega), if_pos (by omega), c_rd, c_rd, if_pos h2]
        · rw [if_pos (by rw [hq]; unfold cOk; simp only [Int.toNat_natCast]; omega)]
          refine Ev.step (f := fun k => impl_run.l0 k n (cSwap ws (w.getD i 0).toNat) w (w.length : Int) ((i + 1 : Nat) : Int)) (fun k => ?_) ?_
          · simp only [impl_run.l0]; rw [if_pos (by omega), if_pos (by omega), if_pos (by omega), c_rd, hq, if_neg h0, c_wid (n - 2) (by omega) (by omega), if_neg h1, if_pos (by omega), if_pos (by omega), c_w1 q (by omega), if_pos (by omega), if_pos (by omega), c_rd, c_rd, if_neg h2, c_w1 i (by omega)]
            simp [cSwap]
          · exact ih (i + 1) _ (by omega) (by rw [cSwap_length]; exact hn)

theorem c_isW (n : Int) (w : List Int) (hw : w.length ≤ 1099511627776) : Ev (fun k => impl_IsWiring.f k n w) (cIsW n w) := by
  unfold impl_IsWiring.f impl_isWires.f
  by_cases h3 : n ≥ 3
  · by_cases h6 : n ≤ 6
    · simp only [if_pos h3, decide_eq_true h6, Option.bind_some, if_true]
      rw [c_pairs n h3 h6]
      by_cases hl : (w.length : Int) = n * (n - 1) / 2
      · simp only [if_pos hl]
        unfold impl_run.f
        have e := c_run_l n w hw h3 h6 w.length 0 (cStart n.toNat) (by omega) (by rw [cStart_length]; omega)
        have e2 : cIsW n w = cRun (cStart n.toNat) w := by unfold cIsW; rw [decide_eq_true ⟨h3, h6, hl⟩]; rfl
        rw [e2]
        refine Ev.bind (Ev.bind (c_upTo n h3 h6) (by simpa using e)) (Ev.now _)
      · simp only [if_neg hl]
        unfold cIsW; rw [decide_eq_false (fun h => hl h.2.2)]; exact Ev.now _
    · simp only [if_pos h3, decide_eq_false h6, Option.bind_some, Bool.false_eq_true, if_false]
      unfold cIsW; rw [decide_eq_false (fun h => h6 h.2.1)]; exact Ev.now _
  · simp only [if_neg h3, Option.bind_some, Bool.false_eq_true, if_false]
    unfold cIsW; rw [decide_eq_false (fun h => h3 h.1)]; exact Ev.now _

/-- Each place of a wiring is a place, and its length is that of a wiring. -/
theorem c_isW_spec {n : Int} {w : List Int} (h : cIsW n w = true) : 3 ≤ n ∧ n ≤ 6 ∧ (w.length : Int) = n * (n - 1) / 2 ∧ cRun (cStart n.toNat) w = true := by
  unfold cIsW at h
  rw [Bool.and_eq_true] at h
  have h1 := of_decide_eq_true h.1
  exact ⟨h1.1, h1.2.1, h1.2.2, h.2⟩
theorem c_run_places : ∀ (w ws : List Int), cRun ws w = true → ∀ p ∈ w, 0 ≤ p ∧ p ≤ (ws.length : Int) - 2 := by
  intro w
  induction w with
  | nil => intro ws _ p hp; cases hp
  | cons q w ih =>
    intro ws h p hp
    simp only [cRun] at h
    by_cases hq : cOk ws q
    · rw [if_pos hq] at h
      rcases List.mem_cons.1 hp with rfl | hp
      · exact ⟨hq.1, hq.2.1⟩
      · have := ih _ h p hp
        rwa [cSwap_length] at this
    · rw [if_neg hq] at h; cases h
theorem c_isW_places {n : Int} {w : List Int} (h : cIsW n w = true) : ∀ p ∈ w, 0 ≤ p ∧ p ≤ n - 2 := by
  obtain ⟨h3, h6, _, hr⟩ := c_isW_spec h
  intro p hp
  have := c_run_places w _ hr p hp
  rw [cStart_length] at this
  omega
theorem c_isW_len {n : Int} {w : List Int} (h : cIsW n w = true) : 3 ≤ w.length ∧ w.length ≤ 15 := by
  obtain ⟨h3, h6, hl, _⟩ := c_isW_spec h
  have : n = 3 ∨ n = 4 ∨ n = 5 ∨ n = 6 := by omega
  rcases this with rfl | rfl | rfl | rfl <;> omega

end Go.Proofs.YtmidcafamppkeaaDoor.P
