/- WiresAfter, FlipWiring, TurnWiring and WiringText: the reference and the program tell the same. Conditions: the list has at most 2^20 places. -/
import Derived.Test.YtmidcafamppkeaaDoorCBase
import Derived.Test.YtmidcafamppkeaaDoorCWiring
import Derived.Test.YtmidcafamppkeaaDoorP15
import Derived.Test.YtmidcafamppkeaaDoorP51
import Derived.Test.YtmidcafamppkeaaDoorP10
import Derived.Test.YtmidcafamppkeaaDoorOClone
import Derived.Test.YtmidcafamppkeaaDoorOFmt
namespace Go.Proofs.YtmidcafamppkeaaDoor.P
open Go.RowKit Go.Proofs.YtmidcafamppkeaaDoorW.PrintWords Go.Proofs.YtmidcafamppkeaaDoorW.PrintLast
set_option linter.unusedVariables false
set_option linter.unusedSimpArgs false
/-! ### WiresAfter -/
def cx_WiresAfter (n : Int) (w : List Int) (i : Int) : List Int := if cIsW n w = true ∧ 0 ≤ i ∧ i ≤ (w.length : Int) then cAfter (cStart n.toNat) (w.take i.toNat) else []
theorem cx_WiresAfter_len (n : Int) (w : List Int) (i : Int) (hl : w.length ≤ 1048576) : (cx_WiresAfter n w i).length ≤ 1099511627776 := by
  unfold cx_WiresAfter; split
  · rename_i h; have := c_isW_spec h.1; rw [cAfter_length, cStart_length]; omega
  · simp
theorem c_take_drop (w : List Int) (m i : Nat) (hm : m ≤ w.length) (h : i < m) : (w.take m).drop i = w.getD i 0 :: (w.take m).drop (i + 1) := by
  have := c_drop (w.take m) i (by simp; omega)
  rw [this]; congr 1
  simp only [List.getD_eq_getElem?_getD, List.getElem?_take_of_lt h]
theorem c_run_after : ∀ (w ws : List Int), cRun ws w = true → ∀ i, i < w.length → cOk (cAfter ws (w.take i)) (w.getD i 0) := by
  intro w
  induction w with
  | nil => intro ws h i hi; simp at hi
  | cons q w ih =>
    intro ws h i hi
    simp only [cRun] at h
    by_cases hq : cOk ws q
    · rw [if_pos hq] at h
      cases i with
      | zero => simpa [cAfter] using hq
      | succ i =>
        have := ih _ h i (by simpa using hi)
        simpa [cAfter] using this
    · rw [if_neg hq] at h; cases h
theorem c_after_snoc : ∀ (w ws : List Int) (p : Int), cAfter ws (w ++ [p]) = cSwap (cAfter ws w) p.toNat := by
  intro w
  induction w with
  | nil => intro ws p; rfl
  | cons q w ih => intro ws p; simp only [List.cons_append, cAfter]; exact ih _ _
theorem c_take_succ (w : List Int) (i : Nat) (h : i < w.length) : w.take (i + 1) = w.take i ++ [w.getD i 0] := by
  rw [List.take_succ_eq_append_getElem h, List.getD_eq_getElem?_getD, List.getElem?_eq_getElem h]; rfl
theorem cS_wires_l (n : Int) (w : List Int) (hl : w.length ≤ 1048576) (hr : cRun (cStart n.toNat) w = true) (h3 : 3 ≤ n) (h6 : n ≤ 6) (m : Nat) (hm : m ≤ w.length) : ∀ (d i : Nat), i + d = m →
    Ev (fun k => spec_WiresAfter.l0 k w (m : Int) (cAfter (cStart n.toNat) (w.take i)) (i : Int)) (cAfter (cStart n.toNat) (w.take m)) := by
  intro d
  induction d with
  | zero =>
    intro i hi
    refine Ev.step (f := fun _ => some (cAfter (cStart n.toNat) (w.take i))) (fun k => ?_) ?_
    · simp only [spec_WiresAfter.l0]; rw [if_neg (by omega)]
    · rw [show i = m by omega]; exact Ev.now _
  | succ d ih =>
    intro i hi
    have hlen : (cAfter (cStart n.toNat) (w.take i)).length = n.toNat := by rw [cAfter_length, cStart_length]
    refine Ev.step (f := fun k => spec_WiresAfter.l0 k w (m : Int) (cAfter (cStart n.toNat) (w.take (i + 1))) ((i + 1 : Nat) : Int)) (fun k => ?_) (ih (i + 1) (by omega))
    simp only [spec_WiresAfter.l0]
    rw [if_pos (by omega), if_pos (by omega), if_pos (by omega), c_rd, c_swap _ _ (by omega) (by omega), if_pos (c_run_after w _ hr i (by omega)), c_w1 i (by omega), c_take_succ w i (by omega), c_after_snoc]; rfl
theorem cI_wires_l (n : Int) (w : List Int) (hl : w.length ≤ 1048576) (hr : cRun (cStart n.toNat) w = true) (h3 : 3 ≤ n) (h6 : n ≤ 6) (m : Nat) (hm : m ≤ w.length) : ∀ (d i : Nat), i + d = m →
    Ev (fun k => impl_WiresAfter.l0 k (cAfter (cStart n.toNat) (w.take i)) (w.take m) ((w.take m).length : Int) (i : Int)) (cAfter (cStart n.toNat) (w.take m)) := by
  intro d
  have hml : (w.take m).length = m := by simp; omega
  induction d with
  | zero =>
    intro i hi
    refine Ev.step (f := fun _ => some (cAfter (cStart n.toNat) (w.take i))) (fun k => ?_) ?_
    · simp only [impl_WiresAfter.l0]; rw [if_neg (by omega)]
    · rw [show i = m by omega]; exact Ev.now _
  | succ d ih =>
    intro i hi
    have hlen : (cAfter (cStart n.toNat) (w.take i)).length = n.toNat := by rw [cAfter_length, cStart_length]
    have hok := c_run_after w _ hr i (by omega)
    have eg : (w.take m).getD i 0 = w.getD i 0 := by simp only [List.getD_eq_getElem?_getD, List.getElem?_take_of_lt (show i < m by omega)]
    refine Ev.step (f := fun k => impl_WiresAfter.l0 k (cAfter (cStart n.toNat) (w.take (i + 1))) (w.take m) ((w.take m).length : Int) ((i + 1 : Nat) : Int)) (fun k => ?_) (ih (i + 1) (by omega))
    unfold cOk at hok
    obtain ⟨q, hq⟩ : ∃ q : Nat, w.getD i 0 = (q : Int) := ⟨(w.getD i 0).toNat, by omega⟩
    rw [hq] at hok eg
    simp only [Int.toNat_natCast] at hok
    simp only [impl_WiresAfter.l0]
    rw [if_pos (by omega), if_pos (by omega), if_pos (by omega), c_rd, eg, c_w1 q (by omega), if_pos (by omega), if_pos (by omega), if_pos (by omega), if_pos (by omega), c_w1 i (by omega), c_take_succ w i (by omega), c_after_snoc, hq, c_rd, c_rd]
    simp [cSwap]
theorem cS_WiresAfter (n : Int) (w : List Int) (i : Int) (hl : w.length ≤ 1048576) : Ev (fun k => spec_WiresAfter.f k n w i) (cx_WiresAfter n w i) := by
  unfold spec_WiresAfter.f spec_l1In.f
  refine Ev.bind (c_isWiring n w (by omega)) ?_
  by_cases h : cIsW n w = true
  · obtain ⟨h3, h6, hlen, hr⟩ := c_isW_spec h
    simp only [if_pos h]
    by_cases h0 : i ≥ 0
    · by_cases h1 : i ≤ (w.length : Int)
      · rw [show cx_WiresAfter n w i = _ from if_pos ⟨h, h0, h1⟩]
        simp only [if_pos h0, decide_eq_true h1, Option.bind_some]
        refine Ev.step (fun k => by simp only [spec_WiresAfter.j0]; rfl) ?_
        simp only [Bool.not_true, Bool.false_eq_true, if_false]
        refine Ev.bind (c_start n h3 h6) ?_
        have := cS_wires_l n w hl hr h3 h6 i.toNat (by omega) i.toNat 0 (by omega)
        rw [Int.toNat_of_nonneg h0] at this
        simpa [cAfter] using this
      · rw [show cx_WiresAfter n w i = _ from if_neg (fun hh => h1 hh.2.2)]
        simp only [if_pos h0, decide_eq_false h1, Option.bind_some]
        refine Ev.step (fun k => by simp only [spec_WiresAfter.j0]; rfl) ?_
        simp only [Bool.not_false, if_true]; exact Ev.now _
    · rw [show cx_WiresAfter n w i = _ from if_neg (fun hh => h0 hh.2.1)]
      simp only [if_neg h0, Option.bind_some]
      refine Ev.step (fun k => by simp only [spec_WiresAfter.j0]; rfl) ?_
      simp only [Bool.not_false, if_true]; exact Ev.now _
  · rw [show cx_WiresAfter n w i = _ from if_neg (fun hh => h hh.1)]
    simp only [if_neg h]
    refine Ev.step (fun k => by simp only [spec_WiresAfter.j0]; rfl) ?_
    simp only [if_true]; exact Ev.now _
theorem cI_WiresAfter (n : Int) (w : List Int) (i : Int) (hl : w.length ≤ 1048576) : Ev (fun k => impl_WiresAfter.f k n w i) (cx_WiresAfter n w i) := by
  unfold impl_WiresAfter.f
  refine Ev.bind (c_isW n w (by omega)) ?_
  by_cases h : cIsW n w = true
  · obtain ⟨h3, h6, hlen, hr⟩ := c_isW_spec h
    simp only [if_pos h]
    by_cases h0 : i < 0
    · rw [show cx_WiresAfter n w i = _ from if_neg (fun hh => by omega)]
      simp only [if_pos h0]
      refine Ev.step (fun k => by simp only [impl_WiresAfter.j0]; rfl) ?_
      simp only [if_true]; exact Ev.now _
    · by_cases h1 : i > (w.length : Int)
      · rw [show cx_WiresAfter n w i = _ from if_neg (fun hh => by omega)]
        simp only [if_neg h0, decide_eq_true h1]
        refine Ev.step (fun k => by simp only [impl_WiresAfter.j0]; rfl) ?_
        simp only [if_true]; exact Ev.now _
      · rw [show cx_WiresAfter n w i = _ from if_pos ⟨h, by omega, by omega⟩]
        simp only [if_neg h0, decide_eq_false h1]
        refine Ev.step (fun k => by simp only [impl_WiresAfter.j0]; rfl) ?_
        simp only [Bool.false_eq_true, if_false]
        refine Ev.bind (c_upTo n h3 h6) ?_
        have g1 : (0 : Int) ≤ i := by omega
        have g2 : i ≤ (w.length : Int) := by omega
        simp only [if_pos g1, if_pos g2]
        have := cI_wires_l n w hl hr h3 h6 i.toNat (by omega) i.toNat 0 (by omega)
        simpa [cAfter] using this
  · rw [show cx_WiresAfter n w i = _ from if_neg (fun hh => h hh.1)]
    simp only [if_neg h]
    refine Ev.step (fun k => by simp only [impl_WiresAfter.j0]; rfl) ?_
    simp only [if_true]; exact Ev.now _
/-! ### FlipWiring -/
/-- The list turned round, each place mirrored. -/
def cx_FlipList (n : Int) (w : List Int) : Nat → List Int
  | 0 => []
  | j + 1 => wrap64 ((wrap64 (n - 2)) - (w.getD j 0)) :: cx_FlipList n w j
theorem cx_FlipList_length (n : Int) (w : List Int) : ∀ j, (cx_FlipList n w j).length = j
  | 0 => rfl
  | j + 1 => by simp [cx_FlipList, cx_FlipList_length n w j]
def cx_FlipWiring (n : Int) (w : List Int) : List Int × Bool := if cIsW n w = true then (cx_FlipList n w w.length, true) else ([], false)
theorem cx_FlipWiring_len (n : Int) (w : List Int) (hl : w.length ≤ 1048576) : (cx_FlipWiring n w).1.length ≤ 1099511627776 := by
  unfold cx_FlipWiring; split
  · simp [cx_FlipList_length]; omega
  · simp
theorem cS_flip_l (n : Int) (w : List Int) (hl : w.length ≤ 1048576) : ∀ (j : Nat) (xs : List Int), j ≤ w.length → xs.length + j ≤ 1048576 →
    Ev (fun k => spec_FlipWiring.l0 k n w xs ((j : Int) - 1)) (xs ++ cx_FlipList n w j, true) := by
  intro j
  induction j with
  | zero =>
    intro xs hj hx
    refine Ev.step (f := fun _ => some (xs, true)) (fun k => ?_) ?_
    · simp only [spec_FlipWiring.l0]; rw [if_neg (by omega)]
    · simp only [cx_FlipList, List.append_nil]; exact Ev.now _
  | succ j ih =>
    intro xs hj hx
    refine Ev.step (f := fun k => spec_FlipWiring.l0 k n w (xs ++ [wrap64 ((wrap64 (n - 2)) - (w.getD j 0))]) ((j : Int) - 1)) (fun k => ?_) ?_
    · simp only [spec_FlipWiring.l0]
      rw [show (((j + 1 : Nat) : Int) - 1) = (j : Int) by omega, if_pos (by omega), if_pos (by omega), if_pos (by omega), if_pos (by omega), c_rd, c_wid ((j : Int) - 1) (by omega) (by omega)]
    · have := ih (xs ++ [wrap64 ((wrap64 (n - 2)) - (w.getD j 0))]) (by omega) (by simp; omega)
      simpa [cx_FlipList] using this
theorem cI_flip_l (n : Int) (w : List Int) (hl : w.length ≤ 1048576) : ∀ (j : Nat) (xs : List Int), j ≤ w.length → xs.length + j ≤ 1048576 →
    Ev (fun k => impl_FlipWiring.l0 k n w xs ((j : Int) - 1)) (xs ++ cx_FlipList n w j, true) := by
  intro j
  induction j with
  | zero =>
    intro xs hj hx
    refine Ev.step (f := fun _ => some (xs, true)) (fun k => ?_) ?_
    · simp only [impl_FlipWiring.l0]; rw [if_neg (by omega)]
    · simp only [cx_FlipList, List.append_nil]; exact Ev.now _
  | succ j ih =>
    intro xs hj hx
    refine Ev.step (f := fun k => impl_FlipWiring.l0 k n w (xs ++ [wrap64 ((wrap64 (n - 2)) - (w.getD j 0))]) ((j : Int) - 1)) (fun k => ?_) ?_
    · simp only [impl_FlipWiring.l0]
      rw [show (((j + 1 : Nat) : Int) - 1) = (j : Int) by omega, if_pos (by omega), if_pos (by omega), if_pos (by omega), if_pos (by omega), c_rd, c_wid ((j : Int) - 1) (by omega) (by omega)]
    · have := ih (xs ++ [wrap64 ((wrap64 (n - 2)) - (w.getD j 0))]) (by omega) (by simp; omega)
      simpa [cx_FlipList] using this
theorem cS_FlipWiring (n : Int) (w : List Int) (hl : w.length ≤ 1048576) : Ev (fun k => spec_FlipWiring.f k n w) (cx_FlipWiring n w) := by
  unfold spec_FlipWiring.f cx_FlipWiring
  refine Ev.bind (c_isWiring n w (by omega)) ?_
  split
  · have := cS_flip_l n w hl w.length [] (by omega) (by simp; omega)
    rw [c_wid ((w.length : Int) - 1) (by omega) (by omega)]; simpa using this
  · exact Ev.now _
theorem cI_FlipWiring (n : Int) (w : List Int) (hl : w.length ≤ 1048576) : Ev (fun k => impl_FlipWiring.f k n w) (cx_FlipWiring n w) := by
  unfold impl_FlipWiring.f cx_FlipWiring
  refine Ev.bind (c_isW n w (by omega)) ?_
  split
  · have := cI_flip_l n w hl w.length [] (by omega) (by simp; omega)
    rw [c_wid ((w.length : Int) - 1) (by omega) (by omega)]; simpa using this
  · exact Ev.now _
/-! ### TurnWiring -/
def cx_TurnWiring (n : Int) (w : List Int) : List Int × Bool := if cIsW n w = true then (w.drop 1 ++ [wrap64 ((wrap64 (n - 2)) - (w.getD 0 0))], true) else ([], false)
theorem cx_TurnWiring_len (n : Int) (w : List Int) (hl : w.length ≤ 1048576) : (cx_TurnWiring n w).1.length ≤ 1099511627776 := by
  unfold cx_TurnWiring; split
  · simp; omega
  · simp
theorem cS_TurnWiring (n : Int) (w : List Int) (hl : w.length ≤ 1048576) : Ev (fun k => spec_TurnWiring.f k n w) (cx_TurnWiring n w) := by
  unfold spec_TurnWiring.f cx_TurnWiring
  refine Ev.bind (c_isWiring n w (by omega)) ?_
  by_cases h : cIsW n w = true
  · have hlen := c_isW_len h
    have e : rd w 0 = w.getD 0 0 := c_rd w 0
    rw [if_pos h, if_pos h]
    simp only [Option.bind_some]
    rw [if_pos (by omega), if_pos (by simp; omega), if_pos (by omega), if_pos (by simp; omega), e]
    exact Ev.now _
  · rw [if_neg h, if_neg h]; exact Ev.now _
theorem cI_TurnWiring (n : Int) (w : List Int) (hl : w.length ≤ 1048576) : Ev (fun k => impl_TurnWiring.f k n w) (cx_TurnWiring n w) := by
  unfold impl_TurnWiring.f cx_TurnWiring slices_Clone_int_int.f
  refine Ev.bind (c_isW n w (by omega)) ?_
  by_cases h : cIsW n w = true
  · have hlen := c_isW_len h
    have e : rd w 0 = w.getD 0 0 := c_rd w 0
    rw [if_pos h, if_pos h, if_pos (by omega), if_pos (by simp; omega)]
    simp only [Option.bind_some]
    rw [if_pos (by omega), if_pos (by simp; omega), e]
    exact Ev.now _
  · rw [if_neg h, if_neg h]; exact Ev.now _
/-! ### WiringText -/
/-- A digit. -/
def cDig (x : Int) : ByteArray := ⟨#[UInt8.ofNat (48 + x.toNat)]⟩
theorem cDig_size (x : Int) : (cDig x).size = 1 := rfl
theorem cS_dig_all : ∀ d ∈ List.range 10, spec_FormatInt.f 5 (d : Nat) = some (cDig (d : Nat)) := by decide +kernel
theorem cS_dig (x : Int) (h0 : 0 ≤ x) (h1 : x < 10) : Ev (fun k => spec_FormatInt.f k x) (cDig x) := by
  obtain ⟨d, rfl⟩ : ∃ d : Nat, x = (d : Int) := ⟨x.toNat, by omega⟩
  exact Ev.of (spec_FormatInt.mono _) (cS_dig_all d (List.mem_range.2 (by omega)))
theorem cI_dig (x : Int) (h0 : 0 ≤ x) (h1 : x < 10) : impl_FormatInt.f x = some (cDig x) := by
  unfold impl_FormatInt.f cDig
  rw [if_pos h0, if_pos h1]
/-- The text behind the digits of a list. -/
def cText : ByteArray → List Int → ByteArray
  | t, [] => t
  | t, x :: r => cText (t ++ cDig x) r
theorem cS_text_l (w : List Int) (hl : w.length ≤ 1048576) (hp : ∀ p ∈ w, 0 ≤ p ∧ p < 10) : ∀ (d i : Nat) (t : ByteArray), i + d = w.length → t.size ≤ 100 + i →
    Ev (fun k => spec_WiringText.l0 k w t (i : Int)) (cText t (w.drop i)) := by
  intro d
  induction d with
  | zero =>
    intro i t hi ht
    rw [List.drop_eq_nil_of_le (by omega)]
    refine Ev.step (f := fun _ => some t) (fun k => ?_) (Ev.now _)
    simp only [spec_WiringText.l0]; rw [if_neg (by omega)]
  | succ d ih =>
    intro i t hi ht
    rw [c_drop w i (by omega)]
    have hm : w.getD i 0 ∈ w := by rw [List.getD_eq_getElem?_getD, List.getElem?_eq_getElem (by omega)]; exact List.getElem_mem _
    obtain ⟨h0, h1⟩ := hp _ hm
    have hz := cDig_size (w.getD i 0)
    have g0 : (i : Int) < (w.length : Int) := by omega
    have g1 : (0 : Int) ≤ (i : Int) := by omega
    have g2 : t.size + (cDig (w.getD i 0)).size ≤ 9223372036854775807 := by omega
    refine Ev.step (f := fun k => (spec_FormatInt.f k (w.getD i 0)).bind fun t130 => (if t.size + t130.size ≤ 9223372036854775807 then spec_WiringText.l0 k w (t ++ t130) ((i + 1 : Nat) : Int) else none)) (fun k => ?_) (Ev.bind (cS_dig _ h0 h1) ?_)
    · simp only [spec_WiringText.l0]; rw [if_pos g0, if_pos g1, c_rd, c_w1 i (by omega)]
    · simp only [if_pos g2, cText]
      exact ih (i + 1) _ (by omega) (by rw [ByteArray.size_append]; omega)
theorem cI_text_l (w : List Int) (hl : w.length ≤ 1048576) (hp : ∀ p ∈ w, 0 ≤ p ∧ p < 10) : ∀ (d i : Nat) (t : ByteArray), i + d = w.length → t.size ≤ 100 + i →
    Ev (fun k => impl_WiringText.l0 k t w (w.length : Int) (i : Int)) (cText t (w.drop i)) := by
  intro d
  induction d with
  | zero =>
    intro i t hi ht
    rw [List.drop_eq_nil_of_le (by omega)]
    refine Ev.step (f := fun _ => some t) (fun k => ?_) (Ev.now _)
    simp only [impl_WiringText.l0]; rw [if_neg (by omega)]
  | succ d ih =>
    intro i t hi ht
    rw [c_drop w i (by omega)]
    have hm : w.getD i 0 ∈ w := by rw [List.getD_eq_getElem?_getD, List.getElem?_eq_getElem (by omega)]; exact List.getElem_mem _
    obtain ⟨h0, h1⟩ := hp _ hm
    have hz := cDig_size (w.getD i 0)
    have g0 : (i : Int) < (w.length : Int) := by omega
    have g1 : (0 : Int) ≤ (i : Int) := by omega
    have g2 : t.size + (cDig (w.getD i 0)).size ≤ 9223372036854775807 := by omega
    refine Ev.step (f := fun k => impl_WiringText.l0 k (t ++ cDig (w.getD i 0)) w (w.length : Int) ((i + 1 : Nat) : Int)) (fun k => ?_) ?_
    · simp only [impl_WiringText.l0]; rw [if_pos g0, if_pos g1, if_pos g0, c_rd, cI_dig _ h0 h1, c_w1 i (by omega)]
      simp only [Option.bind_some, if_pos g2]
    · simp only [cText]
      exact ih (i + 1) _ (by omega) (by rw [ByteArray.size_append]; omega)
def cx_WiringText (n : Int) (w : List Int) : ByteArray := if cIsW n w = true then cText (cDig n ++ (⟨#[58]⟩ : ByteArray)) w else ⟨#[]⟩
theorem c_two (n : Int) : (cDig n ++ (⟨#[58]⟩ : ByteArray)).size = 2 := by rw [ByteArray.size_append, cDig_size]; rfl
theorem cS_WiringText (n : Int) (w : List Int) (hl : w.length ≤ 1048576) : Ev (fun k => spec_WiringText.f k n w) (cx_WiringText n w) := by
  unfold spec_WiringText.f cx_WiringText
  refine Ev.bind (c_isWiring n w (by omega)) ?_
  by_cases h : cIsW n w = true
  · have hs := c_isW_spec h
    simp only [if_pos h]
    refine Ev.bind (cS_dig n (by omega) (by omega)) ?_
    have g : (cDig n).size + 1 ≤ 9223372036854775807 := by rw [cDig_size]; decide
    simp only [if_pos g]
    have := cS_text_l w hl (fun p hp => by have := c_isW_places h p hp; omega) w.length 0 (cDig n ++ (⟨#[58]⟩ : ByteArray)) (by omega) (by rw [c_two]; omega)
    simpa using this
  · simp only [if_neg h]; exact Ev.now _
theorem cI_WiringText (n : Int) (w : List Int) (hl : w.length ≤ 1048576) : Ev (fun k => impl_WiringText.f k n w) (cx_WiringText n w) := by
  unfold impl_WiringText.f cx_WiringText
  refine Ev.bind (c_isW n w (by omega)) ?_
  by_cases h : cIsW n w = true
  · have hs := c_isW_spec h
    simp only [if_pos h]
    rw [cI_dig n (by omega) (by omega)]
    have g : (cDig n).size + 1 ≤ 9223372036854775807 := by rw [cDig_size]; decide
    simp only [Option.bind_some, if_pos g]
    have := cI_text_l w hl (fun p hp => by have := c_isW_places h p hp; omega) w.length 0 (cDig n ++ (⟨#[58]⟩ : ByteArray)) (by omega) (by rw [c_two]; omega)
    simpa using this
  · simp only [if_neg h]; exact Ev.now _

end Go.Proofs.YtmidcafamppkeaaDoor.P
