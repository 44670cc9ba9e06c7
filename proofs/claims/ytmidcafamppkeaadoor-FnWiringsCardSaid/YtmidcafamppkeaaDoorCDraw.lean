/- The draws: a list of code draws a wiring, a list near a wiring, rows near its pairs and a text. Conditions: at most 2^20 bytes of code. -/
import Derived.Test.YtmidcafamppkeaaDoorCRev
import Derived.Test.YtmidcafamppkeaaDoorP35
import Derived.Test.YtmidcafamppkeaaDoorP4
namespace Go.Proofs.YtmidcafamppkeaaDoor.P
open Go.RowKit Go.Proofs.YtmidcafamppkeaaDoorW.PrintWords Go.Proofs.YtmidcafamppkeaaDoorW.PrintLast
set_option linter.unusedVariables false
set_option linter.unusedSimpArgs false

theorem d_and (y : Int) : 0 ≤ Go.bits .and .i64 y 255 ∧ Go.bits .and .i64 y 255 ≤ 255 := by
  have h : ((BitVec.ofInt 64 y) &&& (BitVec.ofInt 64 255)).toNat ≤ 255 := by
    rw [BitVec.toNat_and]
    exact Nat.le_trans Nat.and_le_right (by decide)
  have e : Go.bits .and .i64 y 255 = Go.IntKind.wrap .i64 ((((BitVec.ofInt 64 y) &&& (BitVec.ofInt 64 255)).toNat : Nat) : Int) := rfl
  rw [e, Go.IntKind.wrap_i64]
  omega
theorem d_byte (b : List Int) (i s : Int) (hb : b.length ≤ 1048576) (hi : 0 ≤ i) : ∃ v i' s', spec_l1Byte.f b i s = some (v, i', s') ∧ 0 ≤ v ∧ v ≤ 255 ∧ 0 ≤ i' := by
  unfold spec_l1Byte.f
  by_cases h : i < (b.length : Int)
  · rw [if_pos h, if_pos hi]
    refine ⟨_, _, _, rfl, (d_and _).1, (d_and _).2, ?_⟩
    rw [c_wid (i + 1) (by omega) (by omega)]; omega
  · rw [if_neg h]
    exact ⟨_, _, _, rfl, (d_and _).1, (d_and _).2, hi⟩
theorem d_mod (x n : Int) (hx : 0 ≤ x) (hn : 0 < n) : 0 ≤ Int.tmod x n ∧ Int.tmod x n < n := ⟨Int.tmod_nonneg _ hx, Int.tmod_lt_of_pos _ hn⟩
theorem d_below (b : List Int) (i s n : Int) (hb : b.length ≤ 1048576) (hi : 0 ≤ i) : ∃ v i' s', spec_l1Below.f b i s n = some (v, i', s') ∧ 0 ≤ i' ∧ 0 ≤ v ∧ (0 < n → v < n) := by
  unfold spec_l1Below.f
  by_cases h : n ≤ 0
  · rw [if_pos h]; exact ⟨_, _, _, rfl, hi, by omega, by omega⟩
  rw [if_neg h]
  have h0 : ¬ n = 0 := by omega
  by_cases h2 : n ≤ 256
  · rw [if_pos h2]
    obtain ⟨v, i', s', e, v0, v1, i0⟩ := d_byte b i s hb hi
    rw [e]
    simp only [Option.bind_some]
    rw [if_neg h0]
    have := d_mod v n v0 (by omega)
    exact ⟨_, _, _, rfl, i0, this.1, fun _ => this.2⟩
  rw [if_neg h2]
  obtain ⟨v, i', s', e, v0, v1, i0⟩ := d_byte b i s hb hi
  rw [e]; simp only [Option.bind_some]
  obtain ⟨x, j, t, e, x0, x1, j0⟩ := d_byte b i' s' hb i0
  rw [e]; simp only [Option.bind_some]
  obtain ⟨y, j2, t2, e, y0, y1, j20⟩ := d_byte b j t hb j0
  rw [e]; simp only [Option.bind_some]
  obtain ⟨z, j3, t3, e, z0, z1, j30⟩ := d_byte b j2 t2 hb j20
  rw [e]; simp only [Option.bind_some]
  rw [if_neg h0, c_wid (v * 16777216) (by omega) (by omega), c_wid (x * 65536) (by omega) (by omega), c_wid (v * 16777216 + x * 65536) (by omega) (by omega), c_wid (y * 256) (by omega) (by omega), c_wid (v * 16777216 + x * 65536 + y * 256) (by omega) (by omega), c_wid (v * 16777216 + x * 65536 + y * 256 + z) (by omega) (by omega)]
  have := d_mod (v * 16777216 + x * 65536 + y * 256 + z) n (by omega) (by omega)
  exact ⟨_, _, _, rfl, j30, this.1, fun _ => this.2⟩
theorem d_pick (b : List Int) (i s : Int) (l : List Int) (hb : b.length ≤ 1048576) (hi : 0 ≤ i) (hl : 0 < l.length) : ∃ (j : Nat) (i' s' : Int), spec_l1PickInt.f b i s l = some (l.getD j 0, i', s') ∧ 0 ≤ i' ∧ j < l.length := by
  unfold spec_l1PickInt.f
  obtain ⟨v, i', s', e, i0, v0, v1⟩ := d_below b i s (l.length : Int) hb hi
  have v2 := v1 (by omega)
  rw [e]; simp only [Option.bind_some]
  rw [if_pos v0, if_pos v2]
  obtain ⟨j, rfl⟩ : ∃ j : Nat, v = (j : Int) := ⟨v.toNat, by omega⟩
  exact ⟨j, i', s', by rw [c_rd], i0, by omega⟩
theorem d_new_l (b : List Int) (hb : b.length ≤ 1048576) : ∀ (d i : Nat) (s : Int), i + d = b.length → ∃ s', Ev (fun k => spec_l1New.l0 k b s (i : Int)) (b, 0, s') := by
  intro d
  induction d with
  | zero =>
    intro i s hi
    refine ⟨s, Ev.step (f := fun _ => some (b, 0, s)) (fun k => ?_) (Ev.now _)⟩
    simp only [spec_l1New.l0]; rw [if_neg (by omega)]
  | succ d ih =>
    intro i s hi
    by_cases h : (i : Int) < 4000
    · obtain ⟨s', h'⟩ := ih (i + 1) (Go.bits .and .i64 (wrap64 ((wrap64 ((wrap64 (s * 131)) + (wrap64 (rd b (i : Int))))) + 7)) 1073741823) (by omega)
      refine ⟨s', Ev.step (fun k => ?_) h'⟩
      simp only [spec_l1New.l0]
      rw [if_pos (by omega), if_pos h, if_pos (by omega), c_w1 i (by omega)]
    · refine ⟨s, Ev.step (f := fun _ => some (b, 0, s)) (fun k => ?_) (Ev.now _)⟩
      simp only [spec_l1New.l0]; rw [if_pos (by omega), if_neg h]
theorem d_new (b : List Int) (hb : b.length ≤ 1048576) : ∃ s', Ev (fun k => spec_l1New.f k b) (b, 0, s') := by
  unfold spec_l1New.f
  exact d_new_l b hb b.length 0 _ (by omega)
/-! ### the wiring -/
theorem d_desc : ∀ (l : List Int) (a : Int), (∀ q, q < l.length → (a :: l).getD (q + 1) 0 < (a :: l).getD q 0) → (∀ x ∈ l, x < a) ∧ ivs (a :: l) = tri (l.length + 1)
  | [], a, _ => ⟨fun x hx => by simp at hx, rfl⟩
  | c :: l, a, h => by
    obtain ⟨i1, i2⟩ := d_desc l c (fun q hq => by have := h (q + 1) (by simpa using hq); simpa using this)
    have h0 : c < a := by have := h 0 (by simp); simpa using this
    have hx : ∀ x ∈ c :: l, x < a := by
      intro x hx
      rcases List.mem_cons.mp hx with rfl | hx
      · exact h0
      · have := i1 x hx; omega
    refine ⟨hx, ?_⟩
    rw [ivs, i2]
    have : (c :: l).countP (fun b => decide (b < a)) = (c :: l).length := List.countP_eq_length.mpr (fun x hx' => decide_eq_true (hx x hx'))
    rw [this]; simp [tri]
theorem d_asc (ws : List Int) (hl : 2 ≤ ws.length) (h : ivs ws < tri ws.length) : ∃ q, q + 1 < ws.length ∧ ws.getD q 0 ≤ ws.getD (q + 1) 0 := by
  match ws, hl with
  | a :: l, hl =>
    by_cases hq : ∃ q, q + 1 < (a :: l).length ∧ (a :: l).getD q 0 ≤ (a :: l).getD (q + 1) 0
    · exact hq
    · have := (d_desc l a (fun q hq' => by
        by_cases hh : (a :: l).getD (q + 1) 0 < (a :: l).getD q 0
        · exact hh
        · exact absurd ⟨q, by simpa using hq', by omega⟩ hq)).2
      rw [List.length_cons] at h
      omega
theorem d_l1 (N : Nat) (h3 : 3 ≤ N) (h6 : N ≤ 6) (b : List Int) (w ws : List Int) (hw : w.length ≤ 15) (hl : ws.length = N) (q : Nat) (hq : q + 1 < N) (ha : ws.getD q 0 ≤ ws.getD (q + 1) 0) (i s : Int) : ∀ (d p : Nat), p + 1 < N → (p + d) % (N - 1) = q →
    ∃ p' : Nat, cOk ws (p' : Int) ∧ ∀ R, Ev (fun k => spec_l12Draw.l0 k (N : Int) (w ++ [(p' : Int)]) (cSwap ws p') b i s) R → Ev (fun k => spec_l12Draw.l1 k (N : Int) w ws (p : Int) b i s) R := by
  have stop : ∀ p : Nat, p + 1 < N → ws.getD p 0 ≤ ws.getD (p + 1) 0 → cOk ws (p : Int) ∧ ∀ R, Ev (fun k => spec_l12Draw.l0 k (N : Int) (w ++ [(p : Int)]) (cSwap ws p) b i s) R → Ev (fun k => spec_l12Draw.l1 k (N : Int) w ws (p : Int) b i s) R := by
    intro p hp hle
    have hok : cOk ws (p : Int) := ⟨by omega, by omega, by rw [Int.toNat_natCast]; exact hle⟩
    refine ⟨hok, fun R hR => Ev.step (fun k => ?_) hR⟩
    simp only [spec_l12Draw.l1]
    rw [c_w1 p (by omega), if_pos (by omega), if_pos (by omega), if_pos (by omega), if_pos (by omega), c_rd, c_rd, if_neg (by omega), c_swap ws _ (by omega) (by omega), if_pos hok]
    simp only [Option.bind_some, Int.toNat_natCast]
    rw [if_pos (by omega)]
  intro d
  induction d with
  | zero =>
    intro p hp he
    have : p = q := by rw [Nat.add_zero, Nat.mod_eq_of_lt (by omega)] at he; exact he
    subst this
    exact ⟨p, stop p hp ha⟩
  | succ d ih =>
    intro p hp he
    by_cases hle : ws.getD p 0 ≤ ws.getD (p + 1) 0
    · exact ⟨p, stop p hp hle⟩
    · have hm := Nat.mod_lt (p + 1) (show 0 < N - 1 by omega)
      obtain ⟨p', hok, hR⟩ := ih ((p + 1) % (N - 1)) (by omega) (by rw [Nat.mod_add_mod, show p + 1 + d = p + (d + 1) by omega]; exact he)
      refine ⟨p', hok, fun R h => Ev.step (fun k => ?_) (hR R h)⟩
      simp only [spec_l12Draw.l1]
      have e1 : wrap64 ((N : Int) - 1) = ((N - 1 : Nat) : Int) := by rw [c_wid _ (by omega) (by omega)]; omega
      rw [c_w1 p (by omega), if_pos (by omega), if_pos (by omega), if_pos (by omega), if_pos (by omega), c_rd, c_rd, if_pos (by omega), e1, if_neg (by omega), ← Int.ofNat_tmod]
theorem d_l0 (N : Nat) (h3 : 3 ≤ N) (h6 : N ≤ 6) (b : List Int) (hb : b.length ≤ 1048576) : ∀ (r : Nat) (w : List Int) (i s : Int), 0 ≤ i → w.length + r = N * (N - 1) / 2 → cRun (cStart N) w = true →
    ∃ x i' s', Ev (fun k => spec_l12Draw.l0 k (N : Int) w (cAfter (cStart N) w) b i s) ((N : Int), x, i', s') ∧ 0 ≤ i' ∧ cIsW (N : Int) x = true := by
  have hN : N = 3 ∨ N = 4 ∨ N = 5 ∨ N = 6 := by omega
  have hpz : (N : Int) * ((N : Int) - 1) / 2 = ((N * (N - 1) / 2 : Nat) : Int) := by rcases hN with rfl | rfl | rfl | rfl <;> decide
  have hpn : N * (N - 1) / 2 ≤ 15 := by rcases hN with rfl | rfl | rfl | rfl <;> decide
  have hp := c_pairs (N : Int) (by omega) (by omega)
  intro r
  induction r with
  | zero =>
    intro w i s hi hr hc
    refine ⟨w, i, s, Ev.step (f := fun _ => some ((N : Int), w, i, s)) (fun k => ?_) (Ev.now _), hi, ?_⟩
    · simp only [spec_l12Draw.l0]; rw [hp, hpz, if_neg (by omega)]
    · unfold cIsW
      rw [Int.toNat_natCast, hc, Bool.and_true]
      exact decide_eq_true ⟨by omega, by omega, by omega⟩
  | succ r ih =>
    intro w i s hi hr hc
    obtain ⟨t1, t2, _⟩ := tri_n N (by simp; omega)
    have hlen : (cAfter (cStart N) w).length = N := by rw [cAfter_length, cStart_length]
    obtain ⟨g1, _⟩ := ivs_run w (cStart N) (cStart_nodup N) hc
    obtain ⟨q, hq, ha⟩ := d_asc (cAfter (cStart N) w) (by omega) (by rw [hlen, g1, t2, t1]; omega)
    rw [hlen] at hq
    have e1 : wrap64 ((N : Int) - 1) = ((N - 1 : Nat) : Int) := by rw [c_wid _ (by omega) (by omega)]; omega
    obtain ⟨v, i1, s1, e, i10, v0, v1⟩ := d_below b i s ((N - 1 : Nat) : Int) hb hi
    have v2 := v1 (by omega)
    obtain ⟨p, rfl⟩ : ∃ p : Nat, v = (p : Int) := ⟨v.toNat, by omega⟩
    have hpN : p < N - 1 := by omega
    obtain ⟨p', hok, hR⟩ := d_l1 N h3 h6 b w (cAfter (cStart N) w) (by omega) hlen q hq ha i1 s1 (q + (N - 1) - p) p (by omega) (by rw [show p + (q + (N - 1) - p) = q + (N - 1) by omega, Nat.add_mod_right, Nat.mod_eq_of_lt (by omega)])
    have hc2 : cRun (cStart N) (w ++ [(p' : Int)]) = true := by
      rw [v_run_app, hc, Bool.true_and]; simp only [cRun]; rw [if_pos hok]
    obtain ⟨x, i2, s2, h2, i20, hx⟩ := ih (w ++ [(p' : Int)]) i1 s1 i10 (by simp; omega) hc2
    have ea : cAfter (cStart N) (w ++ [(p' : Int)]) = cSwap (cAfter (cStart N) w) p' := by rw [v_after_app]; simp only [cAfter, Int.toNat_natCast]
    rw [ea] at h2
    refine ⟨x, i2, s2, Ev.step (fun k => ?_) (hR _ h2), i20, hx⟩
    simp only [spec_l12Draw.l0]
    rw [hp, hpz, if_pos (by omega), e1, e]
    simp only [Option.bind_some]
theorem d_draw (b : List Int) (i s : Int) (hb : b.length ≤ 1048576) (hi : 0 ≤ i) : ∃ n x i' s', Ev (fun k => spec_l12Draw.f k b i s) (n, x, i', s') ∧ 0 ≤ i' ∧ cIsW n x = true := by
  unfold spec_l12Draw.f
  obtain ⟨j, i1, s1, e, i10, hj⟩ := d_pick b i s ([0, 1, 2, 2, 3] : List Int) hb hi (by decide)
  rw [e]
  simp only [Option.bind_some]
  have hv : ∀ q ∈ List.range 5, 3 ≤ wrap64 (3 + ([0, 1, 2, 2, 3] : List Int).getD q 0) ∧ wrap64 (3 + ([0, 1, 2, 2, 3] : List Int).getD q 0) ≤ 6 := by decide +kernel
  obtain ⟨h3, h6⟩ := hv j (List.mem_range.mpr hj)
  generalize wrap64 (3 + ([0, 1, 2, 2, 3] : List Int).getD j 0) = n at h3 h6
  obtain ⟨N, rfl⟩ : ∃ N : Nat, n = (N : Int) := ⟨n.toNat, by omega⟩
  obtain ⟨x, i2, s2, h2, i20, hx⟩ := d_l0 N (by omega) (by omega) b hb (N * (N - 1) / 2) [] i1 s1 i10 (by simp) rfl
  refine ⟨_, x, i2, s2, Ev.bind (c_start (N : Int) h3 h6) ?_, i20, hx⟩
  rw [Int.toNat_natCast]
  exact h2
theorem d_bent (b : List Int) (i s : Int) (hb : b.length ≤ 1048576) (hi : 0 ≤ i) : ∃ n x i' s', Ev (fun k => spec_l12Bent.f k b i s) (n, x, i', s') ∧ 0 ≤ i' ∧ x.length ≤ 15 := by
  unfold spec_l12Bent.f
  obtain ⟨n, w, i1, s1, h1, i10, hw⟩ := d_draw b i s hb hi
  have hl := c_isW_len hw
  obtain ⟨v, i2, s2, e2, i20, v0, v1⟩ := d_below b i1 s1 14 hb i10
  by_cases c0 : v = 0
  · obtain ⟨u, i3, s3, e3, i30, u0, u1⟩ := d_below b i2 s2 (w.length : Int) hb i20
    obtain ⟨y, i4, s4, e4, i40, y0, y1⟩ := d_below b i3 s3 6 hb i30
    refine ⟨n, w.set u.toNat (wrap64 (y - 1)), i4, s4, Ev.bind h1 ?_, i40, by rw [List.length_set]; omega⟩
    simp only [e2, Option.bind_some, if_pos c0, e3, e4, if_pos u0, if_pos (u1 (by omega))]
    exact Ev.now _
  by_cases c1 : v = 1
  · obtain ⟨j, i3, s3, e3, i30, hj⟩ := d_pick b i2 s2 ([2, 7, 4, 3] : List Int) hb i20 (by decide)
    refine ⟨([2, 7, 4, 3] : List Int).getD j 0, w, i3, s3, Ev.bind h1 ?_, i30, by omega⟩
    simp only [e2, Option.bind_some, if_neg c0, if_pos c1, e3]
    exact Ev.now _
  · refine ⟨n, w, i2, s2, Ev.bind h1 ?_, i20, by omega⟩
    simp only [e2, Option.bind_some, if_neg c0, if_neg c1]
    exact Ev.now _

end Go.Proofs.YtmidcafamppkeaaDoor.P
