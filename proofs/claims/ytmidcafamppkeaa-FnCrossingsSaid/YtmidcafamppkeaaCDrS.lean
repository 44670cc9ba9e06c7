/- The draws of order signs: they always draw, signs of at most six elements or of eight, four numbers, a set of edges. Conditions: at most 2^20 bytes of code. -/
import Derived.Test.YtmidcafamppkeaaCDr1
import Derived.Test.YtmidcafamppkeaaCAcy
import Derived.Test.YtmidcafamppkeaaP77
import Derived.Test.YtmidcafamppkeaaP90
namespace Go.Proofs.Ytmidcafamppkeaa.P
open Go.RowKit Go.Proofs.YtmidcafamppkeaaW.PrintWords Go.Proofs.YtmidcafamppkeaaW.PrintLast
set_option linter.unusedVariables false
set_option linter.unusedSimpArgs false

theorem d_once (b : List Int) (i s n : Int) (hb : b.length ≤ 1048576) (hi : 0 ≤ i) : ∃ v i' s', spec_l1Once.f b i s n = some (v, i', s') ∧ 0 ≤ i' := by
  unfold spec_l1Once.f
  obtain ⟨v, i', s', e, i0, _, _⟩ := d_below b i s n hb hi
  rw [e]; exact ⟨_, _, _, rfl, i0⟩
theorem d_pickS (b : List Int) (i s : Int) (l : List ByteArray) (hb : b.length ≤ 1048576) (hi : 0 ≤ i) (hl : 0 < l.length) : ∃ t i' s', spec_l1Pick.f b i s l = some (t, i', s') ∧ 0 ≤ i' ∧ t ∈ l := by
  unfold spec_l1Pick.f
  obtain ⟨v, i', s', e, i0, v0, v1⟩ := d_below b i s (l.length : Int) hb hi
  have v2 := v1 (by omega)
  rw [e]; simp only [Option.bind_some]
  rw [if_pos v0, if_pos v2]
  obtain ⟨j, rfl⟩ : ∃ j : Nat, v = (j : Int) := ⟨v.toNat, by omega⟩
  have hj : j < l.length := by omega
  refine ⟨_, i', s', rfl, i0, ?_⟩
  unfold rdOf
  rw [Int.toNat_natCast, show l.getD j ByteArray.empty = l[j] by simp [List.getD, hj]]
  exact List.getElem_mem hj
theorem d_u64 (x : Int) (h : 0 ≤ x) (h2 : x < 4611686018427387904) : IntKind.u64.wrap x = x := IntWalk.u64_in _ ⟨by omega, by omega⟩

/-! ### points -/
section
variable (n : Int) (P : List S114) (x5 : Nat) (h5 : x5 < 100) (hP : P.length ≤ 100) (b : List Int) (i s px py : Int)
include hP
theorem d_p2 : ∀ (d x9 : Nat) (x7 : Bool) (x8 : Nat), x8 < P.length → x9 + d = x8 → ∃ x7', ∀ R, Ev (fun k => spec_l2Draw.l1 k n P (x5 : Int) x7' ((x8 + 1 : Nat) : Int) b i s px py) R → Ev (fun k => spec_l2Draw.l2 k n P (x5 : Int) x7 (x8 : Int) (x9 : Int) b i s px py) R := by
  intro d
  induction d with
  | zero =>
    intro x9 x7 x8 h8 h
    refine ⟨x7, fun R hR => Ev.step (fun k => ?_) hR⟩
    simp only [spec_l2Draw.l2]; rw [if_neg (by omega), c_w1 x8 (by omega)]
  | succ d ih =>
    intro x9 x7 x8 h8 h
    cases x7 with
    | false =>
      refine ⟨false, fun R hR => Ev.step (fun k => ?_) hR⟩
      simp only [spec_l2Draw.l2]; rw [if_pos (by omega), if_neg (by decide), c_w1 x8 (by omega)]
    | true =>
      obtain ⟨t, ht⟩ : ∃ t, spec_l2Area.f ((rd_T114 P (x9 : Int)).f0) ((rd_T114 P (x9 : Int)).f1) ((rd_T114 P (x8 : Int)).f0) ((rd_T114 P (x8 : Int)).f1) px py = some t := ⟨_, rfl⟩
      obtain ⟨x7', h'⟩ := ih (x9 + 1) (t != 0) x8 h8 (by omega)
      refine ⟨x7', fun R hR => Ev.step (fun k => ?_) (h' R hR)⟩
      simp only [spec_l2Draw.l2]
      rw [if_pos (by omega), if_pos trivial, if_pos (by omega), if_pos (by omega), if_pos (by omega), if_pos (by omega), ht]
      simp only [Option.bind_some]
      rw [c_w1 x9 (by omega)]
include h5
theorem d_p1 : ∀ (d x8 : Nat) (x7 : Bool), x8 + d = P.length → ∃ P', (P' = P ∨ P' = P ++ [⟨px, py⟩]) ∧ ∀ R, Ev (fun k => spec_l2Draw.l0 k n P' ((x5 + 1 : Nat) : Int) b i s) R → Ev (fun k => spec_l2Draw.l1 k n P (x5 : Int) x7 (x8 : Int) b i s px py) R := by
  have out : ∀ x7 x8, ∃ P', (P' = P ∨ P' = P ++ [⟨px, py⟩]) ∧ ∀ R, Ev (fun k => spec_l2Draw.l0 k n P' ((x5 + 1 : Nat) : Int) b i s) R → Ev (fun k => spec_l2Draw.j3 k n P (x5 : Int) x7 x8 false b i s px py) R := by
    intro x7 x8
    cases x7 with
    | false =>
      refine ⟨P, .inl rfl, fun R hR => Ev.step (fun k => ?_) hR⟩
      simp only [spec_l2Draw.j3]; rw [if_neg (by decide), if_neg (by decide), c_w1 x5 (by omega)]
    | true =>
      refine ⟨P ++ [⟨px, py⟩], .inr rfl, fun R hR => Ev.step (fun k => ?_) hR⟩
      simp only [spec_l2Draw.j3]; rw [if_neg (by decide), if_pos trivial, if_pos (by omega), c_w1 x5 (by omega)]
  intro d
  induction d with
  | zero =>
    intro x8 x7 h
    obtain ⟨P', hP', h'⟩ := out x7 (x8 : Int)
    refine ⟨P', hP', fun R hR => Ev.step (fun k => ?_) (h' R hR)⟩
    simp only [spec_l2Draw.l1]; rw [if_neg (by omega)]
  | succ d ih =>
    intro x8 x7 h
    cases x7 with
    | false =>
      obtain ⟨P', hP', h'⟩ := out false (x8 : Int)
      refine ⟨P', hP', fun R hR => Ev.step (fun k => ?_) (h' R hR)⟩
      simp only [spec_l2Draw.l1]; rw [if_pos (by omega)]
    | true =>
      obtain ⟨x7', h2⟩ := d_p2 n P x5 hP b i s px py x8 0 (!(((rd_T114 P (x8 : Int)).f0) == px) || (!(((rd_T114 P (x8 : Int)).f1) == py))) x8 (by omega) (by omega)
      obtain ⟨P', hP', h'⟩ := ih (x8 + 1) x7' (by omega)
      refine ⟨P', hP', fun R hR => Ev.step (f := fun k => spec_l2Draw.j3 k n P (x5 : Int) true (x8 : Int) true b i s px py) (fun k => ?_) (Ev.step (fun k => ?_) (h2 R (h' R hR)))⟩
      · simp only [spec_l2Draw.l1]; rw [if_pos (by omega)]
      · simp only [spec_l2Draw.j3]; rw [if_pos trivial, if_pos (by omega), if_pos (by omega)]; rfl
end
theorem d_p0 (n : Int) (h3 : 3 ≤ n) (h6 : n ≤ 6) (b : List Int) (hb : b.length ≤ 1048576) : ∀ (d x5 : Nat) (P : List S114) (i s : Int), x5 + d = 12 → 0 ≤ i → (P.length : Int) ≤ n →
    ∃ Q i' s', Ev (fun k => spec_l2Draw.l0 k n P (x5 : Int) b i s) (Q, i', s') ∧ 0 ≤ i' ∧ 3 ≤ Q.length ∧ Q.length ≤ 6 := by
  have out : ∀ (P : List S114) (x5 i s : Int), 0 ≤ i → (P.length : Int) ≤ n → ∃ Q i' s', Ev (fun k => spec_l2Draw.j1 k n P x5 false b i s) (Q, i', s') ∧ 0 ≤ i' ∧ 3 ≤ Q.length ∧ Q.length ≤ 6 := by
    intro P x5 i s hi hP
    by_cases hl : (P.length : Int) < 3
    · refine ⟨[⟨0, 0⟩, ⟨4, 1⟩, ⟨1, 3⟩, ⟨2, 2⟩], i, s, Ev.step (fun k => ?_) (Ev.now _), hi, ?_, ?_⟩
      · simp only [spec_l2Draw.j1]; rw [if_neg (by decide), if_pos hl]
      · decide
      · decide
    · refine ⟨P, i, s, Ev.step (fun k => ?_) (Ev.now _), hi, by omega, by omega⟩
      simp only [spec_l2Draw.j1]; rw [if_neg (by decide), if_neg hl]
  intro d
  induction d with
  | zero =>
    intro x5 P i s h hi hP
    obtain ⟨Q, i', s', hE, hr⟩ := out P (x5 : Int) i s hi hP
    refine ⟨Q, i', s', Ev.step (fun k => ?_) hE, hr⟩
    simp only [spec_l2Draw.l0]; rw [if_neg (by omega)]
  | succ d ih =>
    intro x5 P i s h hi hP
    by_cases hl : (P.length : Int) < n
    · obtain ⟨v, i1, s1, e1, i10, v0, v1⟩ := d_below b i s 13 hb hi
      obtain ⟨u, i2, s2, e2, i20, u0, u1⟩ := d_below b i1 s1 13 hb i10
      obtain ⟨P', hP', h'⟩ := d_p1 n P x5 (by omega) (by omega) b i2 s2 (wrap64 (v - 6)) (wrap64 (u - 6)) P.length 0 true (by omega)
      have hl' : (P'.length : Int) ≤ n := by
        rcases hP' with rfl | rfl
        · omega
        · rw [List.length_append]; simp only [List.length_cons, List.length_nil]; omega
      obtain ⟨Q, i', s', hE, hr⟩ := ih (x5 + 1) P' i2 s2 (by omega) i20 hl'
      refine ⟨Q, i', s', Ev.step (f := fun k => spec_l2Draw.j1 k n P (x5 : Int) true b i s) (fun k => ?_) (Ev.step (fun k => ?_) (h' _ hE)), hr⟩
      · simp only [spec_l2Draw.l0]; rw [if_pos (by omega), decide_eq_true hl]
      · simp only [spec_l2Draw.j1]; rw [if_pos trivial, e1]; simp only [Option.bind_some]; rw [e2]; rfl
    · obtain ⟨Q, i', s', hE, hr⟩ := out P (x5 : Int) i s hi hP
      refine ⟨Q, i', s', Ev.step (fun k => ?_) hE, hr⟩
      simp only [spec_l2Draw.l0]; rw [if_pos (by omega), decide_eq_false hl]
theorem d_points (b : List Int) (i s : Int) (hb : b.length ≤ 1048576) (hi : 0 ≤ i) : ∃ Q i' s', Ev (fun k => spec_l2Draw.f k b i s) (Q, i', s') ∧ 0 ≤ i' ∧ 3 ≤ Q.length ∧ Q.length ≤ 6 := by
  obtain ⟨v, i1, s1, e1, i10, v0, v1⟩ := d_below b i s 4 hb hi
  have v2 := v1 (by decide)
  have hw : wrap64 (3 + v) = 3 + v := c_wid _ (by omega) (by omega)
  obtain ⟨Q, i', s', hE, hr⟩ := d_p0 (3 + v) (by omega) (by omega) b hb 12 0 [] i1 s1 (by omega) i10 (by simp; omega)
  refine ⟨Q, i', s', Ev.congr (fun k => ?_) hE, hr⟩
  unfold spec_l2Draw.f
  rw [e1]; simp only [Option.bind_some]; rw [hw]; rfl

/-! ### are they points, and their signs -/
theorem d_fits (x y : Int) : ∃ v, spec_l2Fits.f x y 50 = some v := by
  unfold spec_l2Fits.f spec_l1In.f
  by_cases h : x ≥ wrap64 (-50)
  · rw [if_pos h]; simp only [Option.bind_some]
    by_cases h2 : decide (x ≤ 50) = true
    · rw [if_pos h2]
      by_cases h3 : y ≥ wrap64 (-50)
      · rw [if_pos h3]; exact ⟨_, rfl⟩
      · rw [if_neg h3]; exact ⟨_, rfl⟩
    · rw [if_neg h2]; exact ⟨_, rfl⟩
  · rw [if_neg h]; exact ⟨_, rfl⟩
section
variable (P : List S114) (hP : P.length ≤ 100)
include hP
theorem d_a2 (x3 x4 : Nat) (h3 : x3 < P.length) (h4 : x4 < x3) (hr : ∃ v, Ev (fun k => spec_ArePoints.l1 k P (x3 : Int) ((x4 + 1 : Nat) : Int)) v) : ∀ (d x5 : Nat), x5 + d = x4 → ∃ v, Ev (fun k => spec_ArePoints.l2 k P (x3 : Int) (x4 : Int) (x5 : Int)) v := by
  intro d
  induction d with
  | zero =>
    intro x5 h
    obtain ⟨v, hv⟩ := hr
    refine ⟨v, Ev.step (fun k => ?_) hv⟩
    simp only [spec_ArePoints.l2]; rw [if_neg (by omega), c_w1 x4 (by omega)]
  | succ d ih =>
    intro x5 h
    obtain ⟨t, ht⟩ : ∃ t, spec_l2Area.f ((rd_T114 P (x5 : Int)).f0) ((rd_T114 P (x5 : Int)).f1) ((rd_T114 P (x4 : Int)).f0) ((rd_T114 P (x4 : Int)).f1) ((rd_T114 P (x3 : Int)).f0) ((rd_T114 P (x3 : Int)).f1) = some t := ⟨_, rfl⟩
    have e : ∀ k, spec_ArePoints.l2 (k + 1) P (x3 : Int) (x4 : Int) (x5 : Int) = if t = 0 then some false else spec_ArePoints.l2 k P (x3 : Int) (x4 : Int) ((x5 + 1 : Nat) : Int) := by
      intro k
      simp only [spec_ArePoints.l2]
      rw [if_pos (by omega), if_pos (by omega), if_pos (by omega), if_pos (by omega), if_pos (by omega), if_pos (by omega), if_pos (by omega), ht, c_w1 x5 (by omega)]
      rfl
    by_cases h0 : t = 0
    · exact ⟨false, Ev.step (f := fun _ => some false) (fun k => by rw [e, if_pos h0]) (Ev.now _)⟩
    · obtain ⟨v, hv⟩ := ih (x5 + 1) (by omega)
      exact ⟨v, Ev.step (fun k => by rw [e, if_neg h0]) hv⟩
theorem d_a1 (x3 : Nat) (h3 : x3 < P.length) (hr : ∃ v, Ev (fun k => spec_ArePoints.l0 k P ((x3 + 1 : Nat) : Int)) v) : ∀ (d x4 : Nat), x4 + d = x3 → ∃ v, Ev (fun k => spec_ArePoints.l1 k P (x3 : Int) (x4 : Int)) v := by
  intro d
  induction d with
  | zero =>
    intro x4 h
    obtain ⟨v, hv⟩ := hr
    refine ⟨v, Ev.step (fun k => ?_) hv⟩
    simp only [spec_ArePoints.l1]; rw [if_neg (by omega), c_w1 x3 (by omega)]
  | succ d ih =>
    intro x4 h
    obtain ⟨v, hv⟩ := d_a2 P hP x3 x4 h3 (by omega) (ih (x4 + 1) (by omega)) x4 0 (by omega)
    refine ⟨v, Ev.step (fun k => ?_) hv⟩
    simp only [spec_ArePoints.l1]; rw [if_pos (by omega)]; rfl
theorem d_a0 : ∀ (d x3 : Nat), x3 + d = P.length → ∃ v, Ev (fun k => spec_ArePoints.l0 k P (x3 : Int)) v := by
  intro d
  induction d with
  | zero =>
    intro x3 h
    refine ⟨true, Ev.step (f := fun _ => some true) (fun k => ?_) (Ev.now _)⟩
    simp only [spec_ArePoints.l0]; rw [if_neg (by omega)]
  | succ d ih =>
    intro x3 h
    obtain ⟨u, hu⟩ := d_fits ((rd_T114 P (x3 : Int)).f0) ((rd_T114 P (x3 : Int)).f1)
    cases u with
    | false =>
      refine ⟨false, Ev.step (f := fun _ => some false) (fun k => ?_) (Ev.now _)⟩
      simp only [spec_ArePoints.l0]; rw [if_pos (by omega), if_pos (by omega), hu]; rfl
    | true =>
      obtain ⟨v, hv⟩ := d_a1 P hP x3 (by omega) (ih (x3 + 1) (by omega)) x3 0 (by omega)
      refine ⟨v, Ev.step (fun k => ?_) hv⟩
      simp only [spec_ArePoints.l0]; rw [if_pos (by omega), if_pos (by omega), hu]; rfl
theorem d_are : ∃ v, Ev (fun k => spec_ArePoints.f k P) v := by
  have hI : spec_l1In.f (P.length : Int) 3 7 = some (decide (3 ≤ P.length ∧ P.length ≤ 7)) := by
    unfold spec_l1In.f
    by_cases h : (P.length : Int) ≥ 3
    · rw [if_pos h]; congr 1; rw [decide_eq_decide]; omega
    · rw [if_neg h, decide_eq_false (by omega)]
  obtain ⟨v, hv⟩ := d_a0 P hP P.length 0 (by omega)
  by_cases h : 3 ≤ P.length ∧ P.length ≤ 7
  · refine ⟨v, Ev.congr (fun k => ?_) hv⟩
    unfold spec_ArePoints.f; rw [hI, decide_eq_true h]; rfl
  · refine ⟨false, Ev.congr (fun k => ?_) (Ev.now _)⟩
    unfold spec_ArePoints.f; rw [hI, decide_eq_false h]; rfl
end
section
variable (P : List S114) (hP : P.length ≤ 7) (N : Int)
include hP
theorem d_s2 (x5 x6 : Nat) (h5 : x5 < P.length) (h6 : x6 < P.length) (hr : ∀ t : ByteArray, t.size ≤ 64 * x5 + 8 * (x6 + 1) → ∃ t', Ev (fun k => spec_SignsOf.l1 k P (x5 : Int) ((x6 + 1 : Nat) : Int) N t) (N, t', true) ∧ t'.size ≤ 448) : ∀ (d x7 : Nat) (t : ByteArray), x7 + d = P.length → t.size ≤ 64 * x5 + 8 * x6 + x7 → ∃ t', Ev (fun k => spec_SignsOf.l2 k P (x5 : Int) (x6 : Int) (x7 : Int) N t) (N, t', true) ∧ t'.size ≤ 448 := by
  intro d
  induction d with
  | zero =>
    intro x7 t h ht
    obtain ⟨t', hE, hs⟩ := hr t (by omega)
    refine ⟨t', Ev.step (fun k => ?_) hE, hs⟩
    simp only [spec_SignsOf.l2]; rw [if_neg (by omega), c_w1 x6 (by omega)]
  | succ d ih =>
    intro x7 t h ht
    obtain ⟨a, ha⟩ : ∃ a, spec_l2Area.f ((rd_T114 P (x5 : Int)).f0) ((rd_T114 P (x5 : Int)).f1) ((rd_T114 P (x6 : Int)).f0) ((rd_T114 P (x6 : Int)).f1) ((rd_T114 P (x7 : Int)).f0) ((rd_T114 P (x7 : Int)).f1) = some a := ⟨_, rfl⟩
    have hz : (t ++ (⟨#[cB a]⟩ : ByteArray)).size = t.size + 1 := by rw [ByteArray.size_append]; rfl
    obtain ⟨t', hE, hs⟩ := ih (x7 + 1) (t ++ ⟨#[cB a]⟩) (by omega) (by omega)
    refine ⟨t', Ev.step (fun k => ?_) hE, hs⟩
    simp only [spec_SignsOf.l2]
    rw [if_pos (by omega), if_pos (by omega), if_pos (by omega), if_pos (by omega), if_pos (by omega), if_pos (by omega), ha]
    simp only [Option.bind_some, c_byte]
    rw [if_pos (show t.size + (⟨#[cB a]⟩ : ByteArray).size ≤ 9223372036854775807 by have h1_ : (⟨#[cB a]⟩ : ByteArray).size = 1 := rfl; omega), c_w1 x7 (by omega)]
theorem d_s1 (x5 : Nat) (h5 : x5 < P.length) (hr : ∀ t : ByteArray, t.size ≤ 64 * (x5 + 1) → ∃ t', Ev (fun k => spec_SignsOf.l0 k P ((x5 + 1 : Nat) : Int) N t) (N, t', true) ∧ t'.size ≤ 448) : ∀ (d x6 : Nat) (t : ByteArray), x6 + d = P.length → t.size ≤ 64 * x5 + 8 * x6 → ∃ t', Ev (fun k => spec_SignsOf.l1 k P (x5 : Int) (x6 : Int) N t) (N, t', true) ∧ t'.size ≤ 448 := by
  intro d
  induction d with
  | zero =>
    intro x6 t h ht
    obtain ⟨t', hE, hs⟩ := hr t (by omega)
    refine ⟨t', Ev.step (fun k => ?_) hE, hs⟩
    simp only [spec_SignsOf.l1]; rw [if_neg (by omega), c_w1 x5 (by omega)]
  | succ d ih =>
    intro x6 t h ht
    obtain ⟨t', hE, hs⟩ := d_s2 P hP N x5 x6 h5 (by omega) (fun t ht => ih (x6 + 1) t (by omega) (by omega)) d (x6 + 1) t (by omega) (by omega)
    refine ⟨t', Ev.step (fun k => ?_) hE, hs⟩
    simp only [spec_SignsOf.l1]; rw [if_pos (by omega), c_w1 x6 (by omega)]
theorem d_s0 : ∀ (d x5 : Nat) (t : ByteArray), x5 + d = P.length → t.size ≤ 64 * x5 → ∃ t', Ev (fun k => spec_SignsOf.l0 k P (x5 : Int) N t) (N, t', true) ∧ t'.size ≤ 448 := by
  intro d
  induction d with
  | zero =>
    intro x5 t h ht
    refine ⟨t, Ev.step (f := fun _ => some (N, t, true)) (fun k => ?_) (Ev.now _), by omega⟩
    simp only [spec_SignsOf.l0]; rw [if_neg (by omega)]
  | succ d ih =>
    intro x5 t h ht
    obtain ⟨t', hE, hs⟩ := d_s1 P hP N x5 (by omega) (fun t ht => ih (x5 + 1) t (by omega) ht) d (x5 + 1) t (by omega) (by omega)
    refine ⟨t', Ev.step (fun k => ?_) hE, hs⟩
    simp only [spec_SignsOf.l0]; rw [if_pos (by omega), c_w1 x5 (by omega)]
end
theorem d_signsOf (P : List S114) (hP : P.length ≤ 6) : ∃ n t ok, Ev (fun k => spec_SignsOf.f k P) (n, t, ok) ∧ 0 ≤ n ∧ n ≤ 6 ∧ t.size ≤ 448 := by
  obtain ⟨v, hv⟩ := d_are P (by omega)
  unfold spec_SignsOf.f
  cases v with
  | false => exact ⟨0, ⟨#[]⟩, false, Ev.bind hv (Ev.now _), by decide, by decide, by decide⟩
  | true =>
    obtain ⟨t', hE, hs⟩ := d_s0 P (by omega) (P.length : Int) P.length 0 ⟨#[]⟩ (by omega) (by decide)
    exact ⟨P.length, t', true, Ev.bind hv hE, by omega, by omega, hs⟩

/-! ### drawn signs -/
theorem d_l3l (b : List Int) (hb : b.length ≤ 1048576) (x3 n0 : Int) (m : Nat) (hm : m ≤ 10) (hM : wrap64 (Int.tdiv (wrap64 ((wrap64 (x3 * (wrap64 (x3 - 1)))) * (wrap64 (x3 - 2)))) 6) = (m : Int)) : ∀ (d x5 : Nat) (i s : Int) (t : ByteArray), x5 + d = m → 0 ≤ i → t.size ≤ x5 → ∃ t' i' s', Ev (fun k => spec_l3Draw.l0 k x3 (x5 : Int) b i s n0 t) (n0, t', i', s') ∧ 0 ≤ i' ∧ t'.size ≤ 10 := by
  intro d
  induction d with
  | zero =>
    intro x5 i s t h hi ht
    refine ⟨t, i, s, Ev.step (f := fun _ => some (n0, t, i, s)) (fun k => ?_) (Ev.now _), hi, by omega⟩
    simp only [spec_l3Draw.l0]; rw [hM, if_neg (by omega)]
  | succ d ih =>
    intro x5 i s t h hi ht
    obtain ⟨u, i1, s1, e, i10, hu⟩ := d_pickS b i s [(⟨#[43]⟩ : ByteArray), (⟨#[45]⟩ : ByteArray), (⟨#[43]⟩ : ByteArray)] hb hi (by decide)
    have hu1 : u.size = 1 := by simp only [List.mem_cons, List.not_mem_nil, or_false] at hu; rcases hu with rfl | rfl | rfl <;> rfl
    obtain ⟨t', i', s', hE, hr⟩ := ih (x5 + 1) i1 s1 (t ++ u) (by omega) i10 (by rw [ByteArray.size_append]; omega)
    refine ⟨t', i', s', Ev.step (fun k => ?_) hE, hr⟩
    simp only [spec_l3Draw.l0]; rw [hM, if_pos (by omega), e]; simp only [Option.bind_some]; rw [if_pos (by omega), c_w1 x5 (by omega)]
/-- What is drawn: few elements and a short text. -/
def dSg (n : Int) (t : ByteArray) : Prop := (0 ≤ n ∧ (n ≤ 6 ∨ n = 8)) ∧ t.size ≤ 450
theorem d_l3Draw (b : List Int) (i s : Int) (hb : b.length ≤ 1048576) (hi : 0 ≤ i) : ∃ n t i' s', Ev (fun k => spec_l3Draw.f k b i s) (n, t, i', s') ∧ 0 ≤ i' ∧ (0 ≤ n ∧ n ≤ 6) ∧ t.size ≤ 448 := by
  obtain ⟨v, i1, s1, e1, i10⟩ := d_once b i s 5 hb hi
  cases v with
  | true =>
    obtain ⟨u, i2, s2, e2, i20, u0, u1⟩ := d_below b i1 s1 3 hb i10
    have u2 := u1 (by decide)
    have hw : wrap64 (3 + u) = 3 + u := c_wid _ (by omega) (by omega)
    obtain ⟨m, hm, hM⟩ : ∃ m : Nat, m ≤ 10 ∧ wrap64 (Int.tdiv (wrap64 ((wrap64 ((3 + u) * (wrap64 ((3 + u) - 1)))) * (wrap64 ((3 + u) - 2)))) 6) = (m : Int) := by
      obtain rfl | rfl | rfl : u = 0 ∨ u = 1 ∨ u = 2 := by omega
      · exact ⟨1, by decide, by decide +kernel⟩
      · exact ⟨4, by decide, by decide +kernel⟩
      · exact ⟨10, by decide, by decide +kernel⟩
    obtain ⟨t', i', s', hE, i0, hs⟩ := d_l3l b hb (3 + u) (3 + u) m hm hM m 0 i2 s2 ⟨#[]⟩ (by omega) i20 (by decide)
    refine ⟨3 + u, t', i', s', Ev.congr (fun k => ?_) hE, i0, ⟨by omega, by omega⟩, by omega⟩
    unfold spec_l3Draw.f
    rw [e1]; simp only [Option.bind_some]; rw [if_pos trivial, e2]; simp only [Option.bind_some]; rw [hw]; rfl
  | false =>
    obtain ⟨Q, i2, s2, hE, i20, hQ⟩ := d_points b i1 s1 hb i10
    obtain ⟨n, t, ok, hS, n0, n6, hs⟩ := d_signsOf Q hQ.2
    refine ⟨n, t, i2, s2, Ev.congr (f := fun k => (spec_l2Draw.f k b i1 s1).bind fun r => (spec_SignsOf.f k r.1).bind fun q => some (q.1, q.2.1, r.2.1, r.2.2)) (fun k => ?_) (Ev.bind hE (Ev.bind hS (Ev.now _))), i20, ⟨n0, n6⟩, hs⟩
    unfold spec_l3Draw.f
    rw [e1]; rfl
theorem d_l3Bent (b : List Int) (i s : Int) (hb : b.length ≤ 1048576) (hi : 0 ≤ i) : ∃ n t i' s', Ev (fun k => spec_l3Bent.f k b i s) (n, t, i', s') ∧ 0 ≤ i' ∧ dSg n t := by
  obtain ⟨n, t, i1, s1, hE, i10, hn, ht⟩ := d_l3Draw b i s hb hi
  obtain ⟨v, i2, s2, e2, i20, v0, v1⟩ := d_below b i1 s1 18 hb i10
  unfold spec_l3Bent.f
  by_cases h0 : v = 0
  · obtain ⟨j, i3, s3, e3, i30, hj⟩ := d_pick b i2 s2 [2, 8, 4, 5] hb i20 (by decide)
    have hN : 0 ≤ ([2, 8, 4, 5] : List Int).getD j 0 ∧ (([2, 8, 4, 5] : List Int).getD j 0 ≤ 6 ∨ ([2, 8, 4, 5] : List Int).getD j 0 = 8) := by
      have : ∀ j ∈ List.range 4, 0 ≤ ([2, 8, 4, 5] : List Int).getD j 0 ∧ (([2, 8, 4, 5] : List Int).getD j 0 ≤ 6 ∨ ([2, 8, 4, 5] : List Int).getD j 0 = 8) := by decide
      exact this j (by simpa using hj)
    refine ⟨_, t, i3, s3, Ev.bind hE (Ev.congr (fun k => ?_) (Ev.now _)), i30, hN, by omega⟩
    rw [e2]; simp only [Option.bind_some]; rw [if_pos h0, e3]; rfl
  · by_cases h1 : v = 1
    · obtain ⟨u, i3, s3, e3, i30, hu⟩ := d_pickS b i2 s2 [(⟨#[43]⟩ : ByteArray), (⟨#[48]⟩ : ByteArray)] hb i20 (by decide)
      have hu1 : u.size = 1 := by simp only [List.mem_cons, List.not_mem_nil, or_false] at hu; rcases hu with rfl | rfl <;> rfl
      refine ⟨n, t ++ u, i3, s3, Ev.bind hE (Ev.congr (fun k => ?_) (Ev.now _)), i30, ⟨hn.1, .inl hn.2⟩, by rw [ByteArray.size_append]; omega⟩
      rw [e2]; simp only [Option.bind_some]; rw [if_neg h0, if_pos h1, e3]; simp only [Option.bind_some]; rw [if_pos (by omega)]
    · refine ⟨n, t, i2, s2, Ev.bind hE (Ev.congr (fun k => ?_) (Ev.now _)), i20, ⟨hn.1, .inl hn.2⟩, by omega⟩
      rw [e2]; simp only [Option.bind_some]; rw [if_neg h0, if_neg h1]
section
variable (n : Nat) (h3 : 3 ≤ n) (h7 : n ≤ 7) (s : ByteArray) (hs : s.size = (cTrips n).length) (x1 N : Int)
include h3 h7 hs
theorem d_r2 (x6 x7 : Nat) (h67 : x6 < x7) (hx7 : x7 < n) (hr : ∀ t : ByteArray, t.size ≤ 64 * x6 + 8 * (x7 + 1) → ∃ t', Ev (fun k => spec_l4Reverse.l1 k x1 (x6 : Int) ((x7 + 1 : Nat) : Int) (n : Int) s N t) (N, t') ∧ t'.size ≤ 448) : ∀ (d x8 : Nat) (t : ByteArray), x8 + d = n → x7 < x8 → t.size ≤ 64 * x6 + 8 * x7 + x8 → ∃ t', Ev (fun k => spec_l4Reverse.l2 k x1 (x6 : Int) (x7 : Int) (x8 : Int) (n : Int) s N t) (N, t') ∧ t'.size ≤ 448 := by
  intro d
  induction d with
  | zero =>
    intro x8 t h _ ht
    obtain ⟨t', hE, hz⟩ := hr t (by omega)
    refine ⟨t', Ev.step (fun k => ?_) hE, hz⟩
    simp only [spec_l4Reverse.l2]; rw [if_neg (by omega), c_w1 x7 (by omega)]
  | succ d ih =>
    intro x8 t h h78 ht
    have hA := c_specAt n h3 h7 s hs x6 x7 x8 ⟨by omega, by omega, by omega, by omega, by omega, by omega⟩
    have step : ∀ c : Int, ∃ t', Ev (fun k => (spec_l3Byte.f c).bind fun u => if t.size + u.size ≤ 9223372036854775807 then spec_l4Reverse.l2 k x1 (x6 : Int) (x7 : Int) (wrap64 ((x8 : Int) + 1)) (n : Int) s N (t ++ u) else none) (N, t') ∧ t'.size ≤ 448 := by
      intro c
      obtain ⟨t', hE, hz⟩ := ih (x8 + 1) (t ++ ⟨#[cB c]⟩) (by omega) (by omega) (by rw [ByteArray.size_append]; show t.size + 1 ≤ _; omega)
      refine ⟨t', Ev.congr (fun k => ?_) hE, hz⟩
      simp only [c_byte, Option.bind_some]
      rw [if_pos (show t.size + (⟨#[cB c]⟩ : ByteArray).size ≤ 9223372036854775807 by have h1_ : (⟨#[cB c]⟩ : ByteArray).size = 1 := rfl; omega), c_w1 x8 (by omega)]
    by_cases hc : (Go.bits .and .i64 (wrap64 ((wrap64 ((shr .i64 x1 (IntKind.u64.wrap (x6 : Int))) + (shr .i64 x1 (IntKind.u64.wrap (x7 : Int))))) + (shr .i64 x1 (IntKind.u64.wrap (x8 : Int))))) 1) = 1
    · obtain ⟨t', hE, hz⟩ := step (wrap64 (-(cAt n s x6 x7 x8)))
      refine ⟨t', Ev.step (fun k => ?_) (Ev.bind (f := fun k v => (spec_l3Byte.f (wrap64 (-v))).bind fun u => if t.size + u.size ≤ 9223372036854775807 then spec_l4Reverse.l2 k x1 (x6 : Int) (x7 : Int) (wrap64 ((x8 : Int) + 1)) (n : Int) s N (t ++ u) else none) hA hE), hz⟩
      simp only [spec_l4Reverse.l2]
      rw [if_pos (by omega)]; simp only [if_pos (show (0 : Int) ≤ IntKind.u64.wrap (x6 : Int) by rw [d_u64 _ (by omega) (by omega)]; omega), if_pos (show (0 : Int) ≤ IntKind.u64.wrap (x7 : Int) by rw [d_u64 _ (by omega) (by omega)]; omega), if_pos (show (0 : Int) ≤ IntKind.u64.wrap (x8 : Int) by rw [d_u64 _ (by omega) (by omega)]; omega), if_pos hc]
    · obtain ⟨t', hE, hz⟩ := step (cAt n s x6 x7 x8)
      refine ⟨t', Ev.step (fun k => ?_) (Ev.bind (f := fun k v => (spec_l3Byte.f v).bind fun u => if t.size + u.size ≤ 9223372036854775807 then spec_l4Reverse.l2 k x1 (x6 : Int) (x7 : Int) (wrap64 ((x8 : Int) + 1)) (n : Int) s N (t ++ u) else none) hA hE), hz⟩
      simp only [spec_l4Reverse.l2]
      rw [if_pos (by omega)]; simp only [if_pos (show (0 : Int) ≤ IntKind.u64.wrap (x6 : Int) by rw [d_u64 _ (by omega) (by omega)]; omega), if_pos (show (0 : Int) ≤ IntKind.u64.wrap (x7 : Int) by rw [d_u64 _ (by omega) (by omega)]; omega), if_pos (show (0 : Int) ≤ IntKind.u64.wrap (x8 : Int) by rw [d_u64 _ (by omega) (by omega)]; omega), if_neg hc]
theorem d_r1 (x6 : Nat) (h6 : x6 < n) (hr : ∀ t : ByteArray, t.size ≤ 64 * (x6 + 1) → ∃ t', Ev (fun k => spec_l4Reverse.l0 k x1 ((x6 + 1 : Nat) : Int) (n : Int) s N t) (N, t') ∧ t'.size ≤ 448) : ∀ (d x7 : Nat) (t : ByteArray), x7 + d = n → x6 < x7 → t.size ≤ 64 * x6 + 8 * x7 → ∃ t', Ev (fun k => spec_l4Reverse.l1 k x1 (x6 : Int) (x7 : Int) (n : Int) s N t) (N, t') ∧ t'.size ≤ 448 := by
  intro d
  induction d with
  | zero =>
    intro x7 t h _ ht
    obtain ⟨t', hE, hz⟩ := hr t (by omega)
    refine ⟨t', Ev.step (fun k => ?_) hE, hz⟩
    simp only [spec_l4Reverse.l1]; rw [if_neg (by omega), c_w1 x6 (by omega)]
  | succ d ih =>
    intro x7 t h h67 ht
    obtain ⟨t', hE, hz⟩ := d_r2 n h3 h7 s hs x1 N x6 x7 h67 (by omega) (fun t ht => ih (x7 + 1) t (by omega) (by omega) (by omega)) d (x7 + 1) t (by omega) (by omega) (by omega)
    refine ⟨t', Ev.step (fun k => ?_) hE, hz⟩
    simp only [spec_l4Reverse.l1]; rw [if_pos (by omega), c_w1 x7 (by omega)]
theorem d_r0 : ∀ (d x6 : Nat) (t : ByteArray), x6 + d = n → t.size ≤ 64 * x6 → ∃ t', Ev (fun k => spec_l4Reverse.l0 k x1 (x6 : Int) (n : Int) s N t) (N, t') ∧ t'.size ≤ 448 := by
  intro d
  induction d with
  | zero =>
    intro x6 t h ht
    refine ⟨t, Ev.step (f := fun _ => some (N, t)) (fun k => ?_) (Ev.now _), by omega⟩
    simp only [spec_l4Reverse.l0]; rw [if_neg (by omega)]
  | succ d ih =>
    intro x6 t h ht
    obtain ⟨t', hE, hz⟩ := d_r1 n h3 h7 s hs x1 N x6 (by omega) (fun t ht => ih (x6 + 1) t (by omega) ht) d (x6 + 1) t (by omega) (by omega) (by omega)
    refine ⟨t', Ev.step (fun k => ?_) hE, hz⟩
    simp only [spec_l4Reverse.l0]; rw [if_pos (by omega), c_w1 x6 (by omega)]
end
theorem d_l4Draw (b : List Int) (i s : Int) (hb : b.length ≤ 1048576) (hi : 0 ≤ i) : ∃ n t i' s', Ev (fun k => spec_l4Draw.f k b i s) (n, t, i', s') ∧ 0 ≤ i' ∧ dSg n t := by
  obtain ⟨n, t, i1, s1, hE, i10, hn⟩ := d_l3Bent b i s hb hi
  have ht : t.size ≤ 1099511627776 := by have := hn.2; omega
  unfold spec_l4Draw.f
  have no : ∀ i s, 0 ≤ i → ∃ n' t' i' s', Ev (fun k => spec_l4Draw.j0 k false b i s n t) (n', t', i', s') ∧ 0 ≤ i' ∧ dSg n' t' := by
    intro i s hi
    refine ⟨n, t, i, s, Ev.step (f := fun _ => some (n, t, i, s)) (fun k => ?_) (Ev.now _), hi, hn⟩
    simp only [spec_l4Draw.j0]; rw [if_neg (by decide)]
  by_cases hA : cSigns n t = true
  · have hA' := c_specSigns n t ht
    rw [hA] at hA'
    obtain ⟨v, i2, s2, e2, i20⟩ := d_once b i1 s1 4 hb i10
    cases v with
    | false =>
      obtain ⟨n', t', i', s', hJ, hr⟩ := no i2 s2 i20
      refine ⟨n', t', i', s', Ev.bind hE (Ev.bind hA' (Ev.congr (fun k => ?_) hJ)), hr⟩
      simp only [if_pos]; rw [e2]; rfl
    | true =>
      obtain ⟨m, rfl, h3, h7, hz⟩ := c_signs_open n t hA
      obtain ⟨u, i3, s3, e3, i30, u0, u1⟩ := d_below b i2 s2 (m : Int) hb i20
      have u2 := u1 (by omega)
      obtain ⟨t', hR, hs⟩ := d_r0 m h3 h7 t hz (shl .i64 1 (IntKind.u64.wrap u)) (m : Int) m 0 ⟨#[]⟩ (by omega) (by decide)
      have hR' : Ev (fun k => spec_l4Reverse.f k (m : Int) t (shl .i64 1 (IntKind.u64.wrap u))) ((m : Int), t') := hR
      refine ⟨m, t', i3, s3, Ev.bind hE (Ev.bind hA' (Ev.congr (f := fun k => spec_l4Draw.j0 k true b i2 s2 (m : Int) t) (fun k => ?_) (Ev.step (fun k => ?_) (Ev.bind (f := fun k v => some (v.1, v.2, i3, s3)) hR' (Ev.now _))))), i30, ⟨hn.1, by omega⟩⟩
      · simp only [if_pos]; rw [e2]; rfl
      · simp only [spec_l4Draw.j0]; rw [if_pos trivial, e3]; simp only [Option.bind_some]; rw [if_pos (by rw [d_u64 _ u0 (by omega)]; exact u0)]
  · rw [Bool.not_eq_true] at hA
    have hA' := c_specSigns n t ht
    rw [hA] at hA'
    obtain ⟨n', t', i', s', hJ, hr⟩ := no i1 s1 i10
    exact ⟨n', t', i', s', Ev.bind hE (Ev.bind hA' (by simpa using hJ)), hr⟩
theorem d_l5Draw (b : List Int) (i s : Int) (hb : b.length ≤ 1048576) (hi : 0 ≤ i) : ∃ n t i' s', Ev (fun k => spec_l5Draw.f k b i s) (n, t, i', s') ∧ 0 ≤ i' ∧ dSg n t := by
  obtain ⟨v, i1, s1, e1, i10⟩ := d_once b i s 8 hb hi
  unfold spec_l5Draw.f
  cases v with
  | true =>
    obtain ⟨n, t, i2, s2, hE, i20, hn⟩ := d_l4Draw b i1 s1 hb i10
    refine ⟨n, t, i2, s2, Ev.congr (f := fun k => (spec_l4Draw.f k b i1 s1).bind fun r => some (r.1, r.2.1, r.2.2.1, r.2.2.2)) (fun k => ?_) (Ev.bind hE (Ev.now _)), i20, hn⟩
    rw [e1]; rfl
  | false =>
    obtain ⟨Q, i2, s2, hE, i20, hQ⟩ := d_points b i1 s1 hb i10
    obtain ⟨n, t, ok, hS, n0, n6, hs⟩ := d_signsOf Q hQ.2
    refine ⟨n, t, i2, s2, Ev.congr (f := fun k => (spec_l2Draw.f k b i1 s1).bind fun r => (spec_SignsOf.f k r.1).bind fun q => some (q.1, q.2.1, r.2.1, r.2.2)) (fun k => ?_) (Ev.bind hE (Ev.bind hS (Ev.now _))), i20, ⟨⟨n0, .inl n6⟩, by omega⟩⟩
    rw [e1]; rfl
theorem d_acy6 {n : Int} {t : ByteArray} (h : dSg n t) (hA : cAcy n t = true) : ∃ m : Nat, n = (m : Int) ∧ 3 ≤ m ∧ m ≤ 6 ∧ t.size = (cTrips m).length := by
  obtain ⟨m, rfl, h3, h7, hz⟩ := c_acy_open n t hA
  exact ⟨m, rfl, h3, by have := h.1; omega, hz⟩

end Go.Proofs.Ytmidcafamppkeaa.P
