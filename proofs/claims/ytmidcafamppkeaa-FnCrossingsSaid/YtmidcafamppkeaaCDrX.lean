/- The draws of the law on crossings: numbers in range, signs of at most six elements or of eight, four numbers, a set of edges. Conditions: at most 2^20 bytes of code. -/
import Derived.Test.YtmidcafamppkeaaCDrS
import Derived.Test.YtmidcafamppkeaaCDeg
import Derived.Test.YtmidcafamppkeaaP58
import Derived.Test.YtmidcafamppkeaaP4
import Derived.Test.YtmidcafamppkeaaP48
namespace Go.Proofs.Ytmidcafamppkeaa.P
open Go.RowKit Go.Proofs.YtmidcafamppkeaaW.PrintWords Go.Proofs.YtmidcafamppkeaaW.PrintLast
set_option linter.unusedVariables false
set_option linter.unusedSimpArgs false

theorem d_l3o (x1 : Int) (m : Nat) (hx : x1 = (m : Int)) (hm : m ≤ 100) (b : List Int) (hb : b.length ≤ 1048576) : ∀ (d x6 : Nat) (L : List Int) (i s : Int), x6 + d = m → L.length = x6 → 0 ≤ i → ∃ L' i' s', Ev (fun k => spec_l3Order.l0 k x1 L (x6 : Int) b i s) (L', i', s') ∧ 0 ≤ i' ∧ L'.length = m := by
  intro d
  induction d with
  | zero =>
    intro x6 L i s h hL hi
    refine ⟨L, i, s, Ev.step (f := fun _ => some (L, i, s)) (fun k => ?_) (Ev.now _), hi, by omega⟩
    simp only [spec_l3Order.l0]; rw [if_neg (by omega)]
  | succ d ih =>
    intro x6 L i s h hL hi
    have hw : wrap64 ((L.length : Int) + 1) = (L.length : Int) + 1 := c_wid _ (by omega) (by omega)
    obtain ⟨v, i1, s1, e, i10, v0, v1⟩ := d_below b i s ((L.length : Int) + 1) hb hi
    have v2 := v1 (by omega)
    have h1 : (L.take v.toNat).length = v.toNat := by rw [List.length_take]; omega
    have h2 : (L.drop v.toNat).length = L.length - v.toNat := List.length_drop
    obtain ⟨L', i', s', hE, hr⟩ := ih (x6 + 1) ((L.take v.toNat ++ [(x6 : Int)]) ++ ([] ++ L.drop v.toNat)) i1 s1 (by omega) (by rw [List.length_append, List.length_append, List.length_append]; simp only [List.length_cons, List.length_nil]; omega) i10
    refine ⟨L', i', s', Ev.step (fun k => ?_) hE, hr⟩
    simp only [spec_l3Order.l0]
    rw [if_pos (by omega), hw, e]
    simp only [Option.bind_some]
    rw [if_pos v0, if_pos (by omega), if_pos (by simp only [List.length_nil]; omega), if_pos (by omega), if_pos (by rw [List.length_append, List.length_append]; simp only [List.length_cons, List.length_nil]; omega), c_w1 x6 (by omega)]
theorem d_l1Max (n : Int) (t : ByteArray) (h : dSg n t) : ∃ m : Nat, spec_l1Max.f 4 n = some (m : Int) ∧ 4 ≤ m ∧ m ≤ 100 := by
  unfold spec_l1Max.f
  by_cases hc : (4 : Int) > n
  · exact ⟨4, by rw [if_pos hc]; rfl, by decide, by decide⟩
  · refine ⟨n.toNat, ?_, ?_, ?_⟩
    · rw [if_neg hc]; congr 1; omega
    · omega
    · have := h.1; omega
theorem d_l5Four (b : List Int) (hb : b.length ≤ 1048576) : ∃ n t L, Ev (fun k => spec_l5Four.f k b) (n, t, L) ∧ dSg n t ∧ L.length = 4 := by
  obtain ⟨s0, h0⟩ := d_new b hb
  obtain ⟨n, t, i1, s1, h1, i10, hn⟩ := d_l5Draw b 0 s0 hb (by decide)
  obtain ⟨m, em, m4, m9⟩ := d_l1Max n t hn
  obtain ⟨L, i2, s2, h2, i20, hL⟩ := d_l3o (m : Int) m rfl m9 b hb m 0 [] i1 s1 (by omega) rfl i10
  have h2' : Ev (fun k => spec_l3Order.f k b i1 s1 (m : Int)) (L, i2, s2) := h2
  obtain ⟨v, i3, s3, e3, i30⟩ := d_once b i2 s2 14 hb i20
  unfold spec_l5Four.f
  cases v with
  | true =>
    obtain ⟨u, i4, s4, e4, i40, u0, u1⟩ := d_below b i3 s3 8 hb i30
    refine ⟨n, t, (L.set (0 : Int).toNat (wrap64 (u - 1))).take (4 : Int).toNat, Ev.bind h0 (Ev.bind h1 (Ev.congr (f := fun k => (spec_l3Order.f k b i1 s1 (m : Int)).bind fun r => (spec_l1Once.f b r.2.1 r.2.2 14).bind fun q => if q.1 = true then ((spec_l1Below.f b q.2.1 q.2.2 8).bind fun z => (if 0 < (r.1.length : Int) then (if 4 ≤ (r.1.length : Int) then (some (n, t, ((r.1.set (0 : Int).toNat (wrap64 (z.1 - 1))).take (4 : Int).toNat))) else (none)) else (none))) else (if 4 ≤ (r.1.length : Int) then (some (n, t, (r.1.take (4 : Int).toNat))) else (none))) (fun k => ?_) (Ev.bind h2' (Ev.congr (fun k => ?_) (Ev.now _))))), hn, ?_⟩
    · rw [em]; rfl
    · simp only [e3, Option.bind_some, if_true, e4]; rw [if_pos (by omega), if_pos (by omega)]
    · rw [List.length_take, List.length_set, hL]; show min 4 m = 4; omega
  | false =>
    refine ⟨n, t, L.take (4 : Int).toNat, Ev.bind h0 (Ev.bind h1 (Ev.congr (f := fun k => (spec_l3Order.f k b i1 s1 (m : Int)).bind fun r => (spec_l1Once.f b r.2.1 r.2.2 14).bind fun q => if q.1 = true then ((spec_l1Below.f b q.2.1 q.2.2 8).bind fun z => (if 0 < (r.1.length : Int) then (if 4 ≤ (r.1.length : Int) then (some (n, t, ((r.1.set (0 : Int).toNat (wrap64 (z.1 - 1))).take (4 : Int).toNat))) else (none)) else (none))) else (if 4 ≤ (r.1.length : Int) then (some (n, t, (r.1.take (4 : Int).toNat))) else (none))) (fun k => ?_) (Ev.bind h2' (Ev.congr (fun k => ?_) (Ev.now _))))), hn, ?_⟩
    · rw [em]; rfl
    · simp only [e3, Option.bind_some, Bool.false_eq_true, if_false]; rw [if_pos (by omega)]
    · rw [List.length_take, hL]; show min 4 m = 4; omega
theorem d_DrawDoCross (b : List Int) (hb : b.length ≤ 1048576) : ∃ n t x0 x1 x2 x3, Ev (fun k => spec_DrawDoCross.f k b) (n, t, x0, x1, x2, x3) ∧ dSg n t := by
  obtain ⟨n, t, L, h, hn, hL⟩ := d_l5Four b hb
  refine ⟨n, t, rd L 0, rd L 1, rd L 2, rd L 3, ?_, hn⟩
  unfold spec_DrawDoCross.f
  refine Ev.bind h (Ev.congr (fun k => ?_) (Ev.now _))
  simp only; rw [if_pos (by omega), if_pos (by omega), if_pos (by omega), if_pos (by omega)]
theorem d_9l (b : List Int) (hb : b.length ≤ 1048576) (n : Int) (t : ByteArray) : ∀ (d x7 : Nat) (e i s : Int), x7 + d = 21 → 0 ≤ i → ∃ e', Ev (fun k => spec_l9Case.l0 k e (x7 : Int) b i s n t) (n, t, e') := by
  intro d
  induction d with
  | zero =>
    intro x7 e i s h hi
    refine ⟨e, Ev.step (f := fun _ => some (n, t, e)) (fun k => ?_) (Ev.now _)⟩
    simp only [spec_l9Case.l0]; rw [if_neg (by omega)]
  | succ d ih =>
    intro x7 e i s h hi
    obtain ⟨v, i1, s1, e1, i10⟩ := d_once b i s 3 hb hi
    cases v with
    | true =>
      obtain ⟨e', hE⟩ := ih (x7 + 1) (Go.bits .andNot .i64 e (shl .i64 1 (IntKind.u64.wrap (x7 : Int)))) i1 s1 (by omega) i10
      refine ⟨e', Ev.step (fun k => ?_) hE⟩
      simp only [spec_l9Case.l0]; rw [if_pos (by omega), e1]; simp only [Option.bind_some, if_true]; rw [if_pos (by rw [d_u64 _ (by omega) (by omega)]; omega), c_w1 x7 (by omega)]
    | false =>
      obtain ⟨e', hE⟩ := ih (x7 + 1) e i1 s1 (by omega) i10
      refine ⟨e', Ev.step (fun k => ?_) hE⟩
      simp only [spec_l9Case.l0]; rw [if_pos (by omega), e1]; simp only [Option.bind_some, Bool.false_eq_true, if_false]; rw [c_w1 x7 (by omega)]
theorem d_all (n : Int) (h : -100 ≤ n) (h2 : n ≤ 100) : ∃ v, spec_AllEdges.f n = some v := by
  by_cases hc : 3 ≤ n ∧ n ≤ 7
  · exact ⟨_, c_specAll n hc.1 hc.2⟩
  · refine ⟨0, ?_⟩
    unfold spec_AllEdges.f spec_l1In.f
    by_cases h3 : n ≥ 3
    · rw [if_pos h3]; simp only [Option.bind_some]; rw [if_neg (by rw [decide_eq_true_eq]; omega)]
    · rw [if_neg h3]; rfl
theorem d_DrawCrossingPairs (b : List Int) (hb : b.length ≤ 1048576) : ∃ n t e, Ev (fun k => spec_DrawCrossingPairs.f k b) (n, t, e) ∧ dSg n t := by
  obtain ⟨s0, h0⟩ := d_new b hb
  obtain ⟨n, t, i1, s1, h1, i10, hn⟩ := d_l5Draw b 0 s0 hb (by decide)
  obtain ⟨a, ha⟩ := d_all n (by have := hn.1; omega) (by have := hn.1; omega)
  have hj : ∀ q i s, 0 ≤ i → ∃ e, Ev (fun k => spec_l9Case.j0 k a q b i s n t) (n, t, e) := by
    intro q i s hi
    cases q with
    | true =>
      obtain ⟨j, i2, s2, e2, i20, hj⟩ := d_pick b i s [(-1), 9999999, 0] hb hi (by decide)
      refine ⟨([(-1), 9999999, 0] : List Int).getD j 0, Ev.step (f := fun _ => some (n, t, ([(-1), 9999999, 0] : List Int).getD j 0)) (fun k => ?_) (Ev.now _)⟩
      simp only [spec_l9Case.j0, if_true]; rw [e2]; rfl
    | false =>
      obtain ⟨e, hE⟩ := d_9l b hb n t 21 0 a i s (by omega) hi
      refine ⟨e, Ev.step (fun k => ?_) hE⟩
      simp only [spec_l9Case.j0, Bool.false_eq_true, if_false]; rfl
  have hC : ∃ e, Ev (fun k => spec_l9Case.f k b) (n, t, e) := by
    unfold spec_l9Case.f
    by_cases h0' : a = 0
    · obtain ⟨e, hE⟩ := hj true i1 s1 i10
      refine ⟨e, Ev.bind h0 (Ev.bind h1 (Ev.congr (fun k => ?_) hE))⟩
      rw [ha]; simp only [Option.bind_some]; rw [if_pos h0']
    · obtain ⟨v, i2, s2, e2, i20⟩ := d_once b i1 s1 14 hb i10
      obtain ⟨e, hE⟩ := hj v i2 s2 i20
      refine ⟨e, Ev.bind h0 (Ev.bind h1 (Ev.congr (fun k => ?_) hE))⟩
      rw [ha]; simp only [Option.bind_some]; rw [if_neg h0', e2]; rfl
  obtain ⟨e, hE⟩ := hC
  refine ⟨n, t, e, ?_, hn⟩
  unfold spec_DrawCrossingPairs.f
  exact Ev.bind hE (Ev.now _)
theorem d_DrawEdgeIndex (b : List Int) (hb : b.length ≤ 1048576) : ∃ n i j : Int, Ev (fun k => spec_DrawEdgeIndex.f k b) (n, i, j) ∧ (2 ≤ n ∧ n ≤ 8) ∧ (-1 ≤ i ∧ i ≤ 6) ∧ 0 ≤ j ∧ j ≤ 6 := by
  obtain ⟨s0, h0⟩ := d_new b hb
  obtain ⟨v, i1, s1, e1, i10, v0, v1⟩ := d_below b 0 s0 7 hb (by decide)
  obtain ⟨u, i2, s2, e2, i20, u0, u1⟩ := d_below b i1 s1 7 hb i10
  obtain ⟨o, i3, s3, e3, i30⟩ := d_once b i2 s2 12 hb i20
  obtain ⟨z, i4, s4, e4, i40, z0, z1⟩ := d_below b i3 s3 7 hb i30
  have v2 := v1 (by decide); have u2 := u1 (by decide); have z2 := z1 (by decide)
  obtain ⟨q, hq, q0, q1⟩ : ∃ q, spec_l1Bit.f o = some q ∧ 0 ≤ q ∧ q ≤ 1 := by cases o <;> exact ⟨_, rfl, by decide, by decide⟩
  refine ⟨2 + v, u - q, z, ?_, ⟨by omega, by omega⟩, ⟨by omega, by omega⟩, z0, by omega⟩
  unfold spec_DrawEdgeIndex.f
  refine Ev.bind h0 (Ev.congr (fun k => ?_) (Ev.now _))
  simp only; rw [e1]; simp only [Option.bind_some]; rw [e2]; simp only [Option.bind_some]; rw [e3]; simp only [Option.bind_some]; rw [hq]; simp only [Option.bind_some]; rw [e4]; simp only [Option.bind_some]
  rw [c_wid (2 + v) (by omega) (by omega), c_wid (u - q) (by omega) (by omega)]
theorem d_DrawEdgeAt (b : List Int) (hb : b.length ≤ 1048576) : ∃ n q : Int, Ev (fun k => spec_DrawEdgeAt.f k b) (n, q) ∧ (2 ≤ n ∧ n ≤ 8) ∧ (-1 ≤ q ∧ q ≤ 20) := by
  obtain ⟨s0, h0⟩ := d_new b hb
  obtain ⟨v, i1, s1, e1, i10, v0, v1⟩ := d_below b 0 s0 7 hb (by decide)
  obtain ⟨u, i2, s2, e2, i20, u0, u1⟩ := d_below b i1 s1 22 hb i10
  have v2 := v1 (by decide); have u2 := u1 (by decide)
  refine ⟨2 + v, u - 1, ?_, ⟨by omega, by omega⟩, by omega, by omega⟩
  unfold spec_DrawEdgeAt.f
  refine Ev.bind h0 (Ev.congr (fun k => ?_) (Ev.now _))
  simp only; rw [e1]; simp only [Option.bind_some]; rw [e2]; simp only [Option.bind_some]
  rw [c_wid (2 + v) (by omega) (by omega), c_wid (u - 1) (by omega) (by omega)]
theorem d_DrawAllEdges (b : List Int) (hb : b.length ≤ 1048576) : ∃ n : Int, Ev (fun k => spec_DrawAllEdges.f k b) n ∧ -1 ≤ n ∧ n ≤ 9 := by
  obtain ⟨s0, h0⟩ := d_new b hb
  obtain ⟨v, i1, s1, e1, i10, v0, v1⟩ := d_below b 0 s0 11 hb (by decide)
  have v2 := v1 (by decide)
  refine ⟨v - 1, ?_, by omega, by omega⟩
  unfold spec_DrawAllEdges.f
  refine Ev.bind h0 (Ev.congr (fun k => ?_) (Ev.now _))
  simp only; rw [e1]; simp only [Option.bind_some]
  rw [c_wid (v - 1) (by omega) (by omega)]

end Go.Proofs.Ytmidcafamppkeaa.P
