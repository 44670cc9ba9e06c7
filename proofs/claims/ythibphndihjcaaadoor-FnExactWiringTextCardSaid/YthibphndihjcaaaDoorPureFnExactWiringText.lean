/- For every n and every list of at most 2^20 places the program's WiringText returns what the reference's returns, and leaves its list alone; longer lists are passed by the law itself. Conditions: none. -/
import Derived.Test.YthibphndihjcaaaDoorCBase
import Derived.Test.YthibphndihjcaaaDoorCWiring
import Derived.Test.YthibphndihjcaaaDoorOFmt
import Derived.Test.YthibphndihjcaaaDoorP8
import Derived.Test.YthibphndihjcaaaDoorP8
import Derived.Test.YthibphndihjcaaaDoorP8
namespace Go.Proofs.YthibphndihjcaaaDoor.P
open Go.RowKit Go.Proofs.YthibphndihjcaaaDoorW.PrintWords Go.Proofs.YthibphndihjcaaaDoorW.PrintLast
set_option linter.unusedVariables false
set_option linter.unusedSimpArgs false

/-- A digit. -/
def cDig (x : Int) : ByteArray := ⟨#[UInt8.ofNat (48 + x.toNat)]⟩
theorem cDig_size (x : Int) : (cDig x).size = 1 := rfl
theorem cS_dig_all : ∀ d ∈ List.range 10, spec_FormatInt.f 5 (d : Nat) = some (cDig (d : Nat)) := by decide +kernel
theorem cS_dig (x : Int) (h0 : 0 ≤ x) (h1 : x < 10) : Ev (fun k => spec_FormatInt.f k x) (cDig x) := by
  obtain ⟨d, rfl⟩ : ∃ d : Nat, x = (d : Int) := ⟨x.toNat, by omega⟩
  exact Ev.of (spec_FormatInt.mono _) (cS_dig_all d (List.mem_range.2 (by omega)))
theorem cI_dig (x : Int) (h0 : 0 ≤ x) (h1 : x < 10) : impl_FormatInt.f x = some (cDig x) := by
  unfold impl_FormatInt.f cDig
  rw [if_pos h0, if_pos h1]
/-- The text behind the digits of a list. -/
def cText : ByteArray → List Int → ByteArray
  | t, [] => t
  | t, x :: r => cText (t ++ cDig x) r
theorem cS_text_l (w : List Int) (hl : w.length ≤ 1048576) (hp : ∀ p ∈ w, 0 ≤ p ∧ p < 10) : ∀ (d i : Nat) (t : ByteArray), i + d = w.length → t.size ≤ 100 + i →
    Ev (fun k => spec_WiringText.l0 k w t (i : Int)) (cText t (w.drop i)) := by
  intro d
  induction d with
  | zero =>
    intro i t hi ht
    rw [List.drop_eq_nil_of_le (by omega)]
    refine Ev.step (f := fun _ => some t) (fun k => ?_) (Ev.now _)
    simp only [spec_WiringText.l0]; rw [if_neg (by omega)]
  | succ d ih =>
    intro i t hi ht
    rw [c_drop w i (by omega)]
    have hm : w.getD i 0 ∈ w := by rw [List.getD_eq_getElem?_getD, List.getElem?_eq_getElem (by omega)]; exact List.getElem_mem _
    obtain ⟨h0, h1⟩ := hp _ hm
    have hz := cDig_size (w.getD i 0)
    have g0 : (i : Int) < (w.length : Int) := by omega
    have g1 : (0 : Int) ≤ (i : Int) := by omega
    have g2 : t.size + (cDig (w.getD i 0)).size ≤ 9223372036854775807 := by omega
    refine Ev.step (f := fun k => (spec_FormatInt.f k (w.getD i 0)).bind fun t130 => (if t.size + t130.size ≤ 9223372036854775807 then spec_WiringText.l0 k w (t ++ t130) ((i + 1 : Nat) : Int) else none)) (fun k => ?_) (Ev.bind (cS_dig _ h0 h1) ?_)
    · simp only [spec_WiringText.l0]; rw [if_pos g0, if_pos g1, c_rd, c_w1 i (by omega)]
    · simp only [if_pos g2, cText]
      exact ih (i + 1) _ (by omega) (by rw [ByteArray.size_append]; omega)
theorem cI_text_l (w : List Int) (hl : w.length ≤ 1048576) (hp : ∀ p ∈ w, 0 ≤ p ∧ p < 10) : ∀ (d i : Nat) (t : ByteArray), i + d = w.length → t.size ≤ 100 + i →
    Ev (fun k => impl_WiringText.l0 k t w (w.length : Int) (i : Int)) (cText t (w.drop i)) := by
  intro d
  induction d with
  | zero =>
    intro i t hi ht
    rw [List.drop_eq_nil_of_le (by omega)]
    refine Ev.step (f := fun _ => some t) (fun k => ?_) (Ev.now _)
    simp only [impl_WiringText.l0]; rw [if_neg (by omega)]
  | succ d ih =>
    intro i t hi ht
    rw [c_drop w i (by omega)]
    have hm : w.getD i 0 ∈ w := by rw [List.getD_eq_getElem?_getD, List.getElem?_eq_getElem (by omega)]; exact List.getElem_mem _
    obtain ⟨h0, h1⟩ := hp _ hm
    have hz := cDig_size (w.getD i 0)
    have g0 : (i : Int) < (w.length : Int) := by omega
    have g1 : (0 : Int) ≤ (i : Int) := by omega
    have g2 : t.size + (cDig (w.getD i 0)).size ≤ 9223372036854775807 := by omega
    refine Ev.step (f := fun k => impl_WiringText.l0 k (t ++ cDig (w.getD i 0)) w (w.length : Int) ((i + 1 : Nat) : Int)) (fun k => ?_) ?_
    · simp only [impl_WiringText.l0]; rw [if_pos g0, if_pos g1, if_pos g0, c_rd, cI_dig _ h0 h1, c_w1 i (by omega)]
      simp only [Option.bind_some, if_pos g2]
    · simp only [cText]
      exact ih (i + 1) _ (by omega) (by rw [ByteArray.size_append]; omega)
def cx_WiringText (n : Int) (w : List Int) : ByteArray := if cIsW n w = true then cText (cDig n ++ (⟨#[58]⟩ : ByteArray)) w else ⟨#[]⟩
theorem c_two (n : Int) : (cDig n ++ (⟨#[58]⟩ : ByteArray)).size = 2 := by rw [ByteArray.size_append, cDig_size]; rfl
theorem cS_WiringText (n : Int) (w : List Int) (hl : w.length ≤ 1048576) : Ev (fun k => spec_WiringText.f k n w) (cx_WiringText n w) := by
  unfold spec_WiringText.f cx_WiringText
  refine Ev.bind (c_isWiring n w (by omega)) ?_
  by_cases h : cIsW n w = true
  · have hs := c_isW_spec h
    simp only [if_pos h]
    refine Ev.bind (cS_dig n (by omega) (by omega)) ?_
    have g : (cDig n).size + 1 ≤ 9223372036854775807 := by rw [cDig_size]; decide
    simp only [if_pos g]
    have := cS_text_l w hl (fun p hp => by have := c_isW_places h p hp; omega) w.length 0 (cDig n ++ (⟨#[58]⟩ : ByteArray)) (by omega) (by rw [c_two]; omega)
    simpa using this
  · simp only [if_neg h]; exact Ev.now _
theorem cI_WiringText (n : Int) (w : List Int) (hl : w.length ≤ 1048576) : Ev (fun k => impl_WiringText.f k n w) (cx_WiringText n w) := by
  unfold impl_WiringText.f cx_WiringText
  refine Ev.bind (c_isW n w (by omega)) ?_
  by_cases h : cIsW n w = true
  · have hs := c_isW_spec h
    simp only [if_pos h]
    rw [cI_dig n (by omega) (by omega)]
    have g : (cDig n).size + 1 ≤ 9223372036854775807 := by rw [cDig_size]; decide
    simp only [Option.bind_some, if_pos g]
    have := cI_text_l w hl (fun p hp => by have := c_isW_places h p hp; omega) w.length 0 (cDig n ++ (⟨#[58]⟩ : ByteArray)) (by omega) (by rw [c_two]; omega)
    simpa using this
  · simp only [if_neg h]; exact Ev.now _

end Go.Proofs.YthibphndihjcaaaDoor.P
namespace Go.Proofs.YthibphndihjcaaaDoor.Pure
open Go.RowKit Go.Proofs.YthibphndihjcaaaDoor.P Go.Proofs.YthibphndihjcaaaDoorW.PrintWords Go.Proofs.YthibphndihjcaaaDoorW.PrintLast
set_option linter.unusedVariables false

theorem FnExactWiringText : laws_FnExactWiringText.Pure := by
  intro n w _ _ _ _
  apply Ev.rounds
  unfold laws_FnExactWiringText.f
  by_cases hl : (w.length : Int) > 1048576
  · simp only [if_pos hl]; exact Ev.now _
  · have hl2 : w.length ≤ 1048576 := by omega
    simp only [if_neg hl]
    have hT := c_toIntS w (by omega) (by omega)
    have hS := cS_WiringText n w hl2
    have hI := cI_WiringText n w hl2
    have hE := c_eqIntS_self w (by omega)
    generalize cx_WiringText n w = r at hS hI
    refine Ev.bind hT (Ev.bind hS (Ev.bind hT (Ev.bind hI ?_)))
    simp only [if_true]
    refine Ev.bind hT (Ev.bind hE ?_)
    simp only [if_true]
    exact Ev.now _

end Go.Proofs.YthibphndihjcaaaDoor.Pure
