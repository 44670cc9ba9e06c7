/- Do two edges cross: the reference and the program tell the same. Conditions: order signs, four different elements. -/
import Derived.Test.YtmidcafamppkeaaCAcy
import Derived.Test.YtmidcafamppkeaaP72
import Derived.Test.YtmidcafamppkeaaP84
namespace Go.Proofs.Ytmidcafamppkeaa.P
open Go.RowKit Go.Proofs.YtmidcafamppkeaaW.PrintWords Go.Proofs.YtmidcafamppkeaaW.PrintLast
set_option linter.unusedVariables false

/-- The texts that a circuit may have. -/
def cTexts : List ByteArray := [⟨#[43, 43, 43, 43]⟩, ⟨#[43, 43, 43, 45]⟩, ⟨#[43, 43, 45, 43]⟩, ⟨#[43, 43, 45, 45]⟩, ⟨#[43, 45, 43, 43]⟩, ⟨#[43, 45, 43, 45]⟩, ⟨#[43, 45, 45, 43]⟩, ⟨#[43, 45, 45, 45]⟩]
theorem c_cB (t : Int) : cB t = 43 ∨ cB t = 45 := by unfold cB; split <;> simp
theorem c_text (n : Nat) (s : ByteArray) (q : Nat × Nat × Nat × Nat) : cCq n s q ∈ cTexts := by
  unfold cCq cCirc cTexts
  generalize wrap64 (wrap64 (-(cAt n s q.2.1 q.2.2.1 q.2.2.2)) * cAt n s q.1 q.2.2.1 q.2.2.2) = x
  generalize wrap64 (cAt n s q.2.1 q.2.2.1 q.2.2.2 * cAt n s q.1 q.2.1 q.2.2.2) = y
  generalize wrap64 (wrap64 (-(cAt n s q.2.1 q.2.2.1 q.2.2.2)) * cAt n s q.1 q.2.1 q.2.2.1) = z
  rcases c_cB x with h1 | h1 <;> rcases c_cB y with h2 | h2 <;> rcases c_cB z with h3 | h3 <;> rw [h1, h2, h3] <;> simp
def cXs (t : ByteArray) (a b c d : Nat) : Option Bool := (spec_l5Split.l0 6 [(a : Int), (b : Int), (c : Int), (d : Int)] t 0 0 0).bind fun r => if 0 ≤ (IntKind.u64.wrap (a : Int)) then (if 0 ≤ (IntKind.u64.wrap (b : Int)) then (some (r.1 == (wrap64 ((shl .i64 1 (IntKind.u64.wrap (a : Int))) + (shl .i64 1 (IntKind.u64.wrap (b : Int))))))) else none) else none
def cXi (t : ByteArray) (a1 a2 a3 a4 : Int) : Option Bool := (impl_chi_split.l0 6 t 0 0 [a1, a2, a3, a4] 4 0).bind fun bt326 => (if 0 ≤ a1 then (if 0 ≤ a2 then (if 0 ≤ a3 then (if 0 ≤ a4 then (if bt326.1 = (Go.bits .or .i64 (shl .i64 1 a1) (shl .i64 1 a2)) then (if bt326.2 = (Go.bits .or .i64 (shl .i64 1 a3) (shl .i64 1 a4)) then (some true) else (if bt326.1 = (Go.bits .or .i64 (shl .i64 1 a3) (shl .i64 1 a4)) then (some (bt326.2 == (Go.bits .or .i64 (shl .i64 1 a1) (shl .i64 1 a2)))) else (some false))) else (if bt326.1 = (Go.bits .or .i64 (shl .i64 1 a3) (shl .i64 1 a4)) then (some (bt326.2 == (Go.bits .or .i64 (shl .i64 1 a1) (shl .i64 1 a2)))) else (some false))) else (none)) else (none)) else (none)) else (none))
/-- Do they cross? -/
def cCr (t : ByteArray) (q : Nat × Nat × Nat × Nat) : Bool := (cXi t (q.1 : Int) (q.2.1 : Int) (q.2.2.1 : Int) (q.2.2.2 : Int)).getD false
theorem c_cross_all : ∀ t ∈ cTexts, ∀ a ∈ List.range 7, ∀ b ∈ List.range 7, ∀ c ∈ List.range 7, ∀ d ∈ List.range 7, (a ≠ b ∧ a ≠ c ∧ a ≠ d ∧ b ≠ c ∧ b ≠ d ∧ c ≠ d) → cXs t a b c d = some (cCr t (a, b, c, d)) ∧ cXi t (a : Nat) (b : Nat) (c : Nat) (d : Nat) = some (cCr t (a, b, c, d)) := by decide +kernel
theorem c_crosses (n : Nat) (h7 : n ≤ 7) (s : ByteArray) (a b c d : Nat) (h : cD4 n (a, b, c, d)) : cXs (cCq n s (a, b, c, d)) a b c d = some (cCr (cCq n s (a, b, c, d)) (a, b, c, d)) ∧ cXi (cCq n s (a, b, c, d)) (a : Nat) (b : Nat) (c : Nat) (d : Nat) = some (cCr (cCq n s (a, b, c, d)) (a, b, c, d)) := by
  simp only [cD4] at h
  exact c_cross_all _ (c_text n s _) a (by simp; omega) b (by simp; omega) c (by simp; omega) d (by simp; omega) (by omega)
theorem c_specCross (n : Nat) (h3 : 3 ≤ n) (h7 : n ≤ 7) (s : ByteArray) (hs : s.size = (cTrips n).length) (a b c d : Nat) (h : cD4 n (a, b, c, d)) :
    Ev (fun k => spec_l9Cross.f k (n : Int) s (a : Int) (b : Int) (c : Int) (d : Int)) (cCr (cCq n s (a, b, c, d)) (a, b, c, d)) := by
  have hx := (c_crosses n h7 s a b c d h).1
  obtain ⟨r, hr, hr2⟩ := Option.bind_eq_some_iff.1 hx
  have hq := c_specCirc n h3 h7 s hs (a, b, c, d) h
  simp only [cD4] at h
  unfold spec_l9Cross.f
  simp only [if_neg (show ¬ (a : Int) = (c : Int) by omega), if_neg (show ¬ (a : Int) = (d : Int) by omega), if_neg (show ¬ (b : Int) = (c : Int) by omega), if_neg (show ¬ (b : Int) = (d : Int) by omega)]
  refine Ev.bind (a := r) ?_ (by rw [hr2]; exact Ev.now _)
  unfold spec_l5Split.f
  simp only [show (0 : Int) < (([(a : Int), (b : Int), (c : Int), (d : Int)] : List Int).length : Int) by simp, show (1 : Int) < (([(a : Int), (b : Int), (c : Int), (d : Int)] : List Int).length : Int) by simp, show (2 : Int) < (([(a : Int), (b : Int), (c : Int), (d : Int)] : List Int).length : Int) by simp, show (3 : Int) < (([(a : Int), (b : Int), (c : Int), (d : Int)] : List Int).length : Int) by simp, if_true]
  exact Ev.bind hq (Ev.of (fun k => spec_l5Split.mono_l k _ _ _ _ _) hr)
theorem c_implCross (n : Nat) (h3 : 3 ≤ n) (h7 : n ≤ 7) (s : ByteArray) (a b c d : Nat) (h : cD4 n (a, b, c, d)) :
    Ev (fun k => impl_chi_cross.f k (cTab n s) (a : Int) (b : Int) (c : Int) (d : Int)) (cCr (cCq n s (a, b, c, d)) (a, b, c, d)) := by
  have hx := (c_crosses n h7 s a b c d h).2
  obtain ⟨r, hr, hr2⟩ := Option.bind_eq_some_iff.1 hx
  have hq := c_implCirc n h3 h7 s (a, b, c, d) h
  unfold impl_chi_cross.f
  refine Ev.bind (a := r) ?_ (by rw [hr2]; exact Ev.now _)
  unfold impl_chi_split.f
  refine Ev.bind hq ?_
  exact Ev.congr (f := fun k => impl_chi_split.l0 k (cCq n s (a, b, c, d)) 0 0 [(a : Int), (b : Int), (c : Int), (d : Int)] 4 0) (fun _ => rfl) (Ev.of (fun k => impl_chi_split.mono_l k _ _ _ _ _ _) hr)

end Go.Proofs.Ytmidcafamppkeaa.P
