/- The inner element of four: what the reference computes. Conditions: order signs. -/
import Derived.Test.YtmidcafamppkeaaCXing
import Derived.Test.YtmidcafamppkeaaCSums
import Derived.Test.YtmidcafamppkeaaP16
namespace Go.Proofs.Ytmidcafamppkeaa.P
open Go.RowKit Go.Proofs.YtmidcafamppkeaaW.PrintWords Go.Proofs.YtmidcafamppkeaaW.PrintLast
set_option linter.unusedVariables false
set_option linter.unusedSimpArgs false


/-- Both sets of a circuit. -/
def cSp (t : ByteArray) (q : Nat × Nat × Nat × Nat) : Nat × Nat := (((impl_chi_split.l0 6 t 0 0 [(q.1 : Int), (q.2.1 : Int), (q.2.2.1 : Int), (q.2.2.2 : Int)] 4 0).getD (0, 0)).1.toNat, ((impl_chi_split.l0 6 t 0 0 [(q.1 : Int), (q.2.1 : Int), (q.2.2.1 : Int), (q.2.2.2 : Int)] 4 0).getD (0, 0)).2.toNat)
theorem c_split_all : ∀ t ∈ cTexts, ∀ a ∈ List.range 7, ∀ b ∈ List.range 7, ∀ c ∈ List.range 7, ∀ d ∈ List.range 7, (a ≠ b ∧ a ≠ c ∧ a ≠ d ∧ b ≠ c ∧ b ≠ d ∧ c ≠ d) → spec_l5Split.l0 6 [(a : Nat), (b : Nat), (c : Nat), (d : Nat)] t 0 0 0 = some (((cSp t (a, b, c, d)).1 : Int), ((cSp t (a, b, c, d)).2 : Int)) ∧ impl_chi_split.l0 6 t 0 0 [(a : Nat), (b : Nat), (c : Nat), (d : Nat)] 4 0 = some (((cSp t (a, b, c, d)).1 : Int), ((cSp t (a, b, c, d)).2 : Int)) ∧ (cSp t (a, b, c, d)).1 < 128 ∧ (cSp t (a, b, c, d)).2 < 128 := by decide +kernel
theorem c_split (n : Nat) (h7 : n ≤ 7) (s : ByteArray) (a b c d : Nat) (h : cD4 n (a, b, c, d)) : spec_l5Split.l0 6 [(a : Int), (b : Int), (c : Int), (d : Int)] (cCq n s (a, b, c, d)) 0 0 0 = some (((cSp (cCq n s (a, b, c, d)) (a, b, c, d)).1 : Int), ((cSp (cCq n s (a, b, c, d)) (a, b, c, d)).2 : Int)) ∧ impl_chi_split.l0 6 (cCq n s (a, b, c, d)) 0 0 [(a : Int), (b : Int), (c : Int), (d : Int)] 4 0 = some (((cSp (cCq n s (a, b, c, d)) (a, b, c, d)).1 : Int), ((cSp (cCq n s (a, b, c, d)) (a, b, c, d)).2 : Int)) ∧ (cSp (cCq n s (a, b, c, d)) (a, b, c, d)).1 < 128 ∧ (cSp (cCq n s (a, b, c, d)) (a, b, c, d)).2 < 128 := by
  simp only [cD4] at h
  exact c_split_all _ (c_text n s _) a (by simp; omega) b (by simp; omega) c (by simp; omega) d (by simp; omega) (by omega)
def cOnly (r : Nat) : Int := (spec_l5Only.f 9 (r : Int)).getD (-2)
theorem c_onlyS_all : ∀ r < 128, spec_l5Only.f 9 ((r : Nat) : Int) = some (cOnly r) := by decide +kernel
/-- The inner one of four. -/
def cIv (n : Nat) (s : ByteArray) (q : Nat × Nat × Nat × Nat) : Int := mx (cOnly (cSp (cCq n s q) q).1) (cOnly (cSp (cCq n s q) q).2)
theorem c_l1Max (x y : Int) : spec_l1Max.f x y = some (mx x y) := by
  unfold spec_l1Max.f mx
  repeat' split
  all_goals first | rfl | (congr 1; omega) | omega
theorem c_specSplit (n : Nat) (h3 : 3 ≤ n) (h7 : n ≤ 7) (s : ByteArray) (hs : s.size = (cTrips n).length) (a b c d : Nat) (h : cD4 n (a, b, c, d)) :
    Ev (fun k => spec_l5Split.f k (n : Int) s [(a : Int), (b : Int), (c : Int), (d : Int)]) (((cSp (cCq n s (a, b, c, d)) (a, b, c, d)).1 : Int), ((cSp (cCq n s (a, b, c, d)) (a, b, c, d)).2 : Int)) := by
  have hq := c_specCirc n h3 h7 s hs (a, b, c, d) h
  unfold spec_l5Split.f
  simp only [show (0 : Int) < (([(a : Int), (b : Int), (c : Int), (d : Int)] : List Int).length : Int) by simp, show (1 : Int) < (([(a : Int), (b : Int), (c : Int), (d : Int)] : List Int).length : Int) by simp, show (2 : Int) < (([(a : Int), (b : Int), (c : Int), (d : Int)] : List Int).length : Int) by simp, show (3 : Int) < (([(a : Int), (b : Int), (c : Int), (d : Int)] : List Int).length : Int) by simp, if_true]
  exact Ev.bind hq (Ev.of (fun k => spec_l5Split.mono_l k _ _ _ _ _) (c_split n h7 s a b c d h).1)
theorem c_specInner (n : Nat) (h3 : 3 ≤ n) (h7 : n ≤ 7) (s : ByteArray) (hs : s.size = (cTrips n).length) (a b c d : Nat) (h : cD4 n (a, b, c, d)) :
    Ev (fun k => spec_l5Inner.f k (n : Int) s [(a : Int), (b : Int), (c : Int), (d : Int)]) (cIv n s (a, b, c, d)) := by
  have hl := c_split n h7 s a b c d h
  unfold spec_l5Inner.f cIv
  refine Ev.bind (c_specSplit n h3 h7 s hs a b c d h) ?_
  refine Ev.bind (Ev.of (fun k => spec_l5Only.mono _ k) (c_onlyS_all _ hl.2.2.1)) (Ev.bind (Ev.of (fun k => spec_l5Only.mono _ k) (c_onlyS_all _ hl.2.2.2)) ?_)
  simp only [c_l1Max, Option.bind_some]
  exact Ev.now _
/-- Does p lie inside a triangle? -/
def cInn (n : Nat) (s : ByteArray) (p : Nat) (t : Nat × Nat × Nat) : Bool := cIv n s (p, t.1, t.2.1, t.2.2) == (p : Int)
end Go.Proofs.Ytmidcafamppkeaa.P
