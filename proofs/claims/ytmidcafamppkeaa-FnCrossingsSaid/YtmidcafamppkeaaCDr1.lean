/- The draws of numbers: a cursor over bytes always draws a number in range. Conditions: at most 2^20 bytes of code. -/
import Derived.Test.YtmidcafamppkeaaCNum
import Derived.Test.YtmidcafamppkeaaP4
namespace Go.Proofs.Ytmidcafamppkeaa.P
open Go.RowKit Go.Proofs.YtmidcafamppkeaaW.PrintWords Go.Proofs.YtmidcafamppkeaaW.PrintLast
set_option linter.unusedVariables false
set_option linter.unusedSimpArgs false

theorem d_and (y : Int) : 0 ≤ Go.bits .and .i64 y 255 ∧ Go.bits .and .i64 y 255 ≤ 255 := by
  have h : ((BitVec.ofInt 64 y) &&& (BitVec.ofInt 64 255)).toNat ≤ 255 := by
    rw [BitVec.toNat_and]
    exact Nat.le_trans Nat.and_le_right (by decide)
  have e : Go.bits .and .i64 y 255 = Go.IntKind.wrap .i64 ((((BitVec.ofInt 64 y) &&& (BitVec.ofInt 64 255)).toNat : Nat) : Int) := rfl
  rw [e, Go.IntKind.wrap_i64]
  omega
theorem d_byte (b : List Int) (i s : Int) (hb : b.length ≤ 1048576) (hi : 0 ≤ i) : ∃ v i' s', spec_l1Byte.f b i s = some (v, i', s') ∧ 0 ≤ v ∧ v ≤ 255 ∧ 0 ≤ i' := by
  unfold spec_l1Byte.f
  by_cases h : i < (b.length : Int)
  · rw [if_pos h, if_pos hi]
    refine ⟨_, _, _, rfl, (d_and _).1, (d_and _).2, ?_⟩
    rw [c_wid (i + 1) (by omega) (by omega)]; omega
  · rw [if_neg h]
    exact ⟨_, _, _, rfl, (d_and _).1, (d_and _).2, hi⟩
theorem d_mod (x n : Int) (hx : 0 ≤ x) (hn : 0 < n) : 0 ≤ Int.tmod x n ∧ Int.tmod x n < n := ⟨Int.tmod_nonneg _ hx, Int.tmod_lt_of_pos _ hn⟩
theorem d_below (b : List Int) (i s n : Int) (hb : b.length ≤ 1048576) (hi : 0 ≤ i) : ∃ v i' s', spec_l1Below.f b i s n = some (v, i', s') ∧ 0 ≤ i' ∧ 0 ≤ v ∧ (0 < n → v < n) := by
  unfold spec_l1Below.f
  by_cases h : n ≤ 0
  · rw [if_pos h]; exact ⟨_, _, _, rfl, hi, by omega, by omega⟩
  rw [if_neg h]
  have h0 : ¬ n = 0 := by omega
  by_cases h2 : n ≤ 256
  · rw [if_pos h2]
    obtain ⟨v, i', s', e, v0, v1, i0⟩ := d_byte b i s hb hi
    rw [e]
    simp only [Option.bind_some]
    rw [if_neg h0]
    have := d_mod v n v0 (by omega)
    exact ⟨_, _, _, rfl, i0, this.1, fun _ => this.2⟩
  rw [if_neg h2]
  obtain ⟨v, i', s', e, v0, v1, i0⟩ := d_byte b i s hb hi
  rw [e]; simp only [Option.bind_some]
  obtain ⟨x, j, t, e, x0, x1, j0⟩ := d_byte b i' s' hb i0
  rw [e]; simp only [Option.bind_some]
  obtain ⟨y, j2, t2, e, y0, y1, j20⟩ := d_byte b j t hb j0
  rw [e]; simp only [Option.bind_some]
  obtain ⟨z, j3, t3, e, z0, z1, j30⟩ := d_byte b j2 t2 hb j20
  rw [e]; simp only [Option.bind_some]
  rw [if_neg h0, c_wid (v * 16777216) (by omega) (by omega), c_wid (x * 65536) (by omega) (by omega), c_wid (v * 16777216 + x * 65536) (by omega) (by omega), c_wid (y * 256) (by omega) (by omega), c_wid (v * 16777216 + x * 65536 + y * 256) (by omega) (by omega), c_wid (v * 16777216 + x * 65536 + y * 256 + z) (by omega) (by omega)]
  have := d_mod (v * 16777216 + x * 65536 + y * 256 + z) n (by omega) (by omega)
  exact ⟨_, _, _, rfl, j30, this.1, fun _ => this.2⟩
theorem d_pick (b : List Int) (i s : Int) (l : List Int) (hb : b.length ≤ 1048576) (hi : 0 ≤ i) (hl : 0 < l.length) : ∃ (j : Nat) (i' s' : Int), spec_l1PickInt.f b i s l = some (l.getD j 0, i', s') ∧ 0 ≤ i' ∧ j < l.length := by
  unfold spec_l1PickInt.f
  obtain ⟨v, i', s', e, i0, v0, v1⟩ := d_below b i s (l.length : Int) hb hi
  have v2 := v1 (by omega)
  rw [e]; simp only [Option.bind_some]
  rw [if_pos v0, if_pos v2]
  obtain ⟨j, rfl⟩ : ∃ j : Nat, v = (j : Int) := ⟨v.toNat, by omega⟩
  exact ⟨j, i', s', by rw [c_rd], i0, by omega⟩
theorem d_new_l (b : List Int) (hb : b.length ≤ 1048576) : ∀ (d i : Nat) (s : Int), i + d = b.length → ∃ s', Ev (fun k => spec_l1New.l0 k b s (i : Int)) (b, 0, s') := by
  intro d
  induction d with
  | zero =>
    intro i s hi
    refine ⟨s, Ev.step (f := fun _ => some (b, 0, s)) (fun k => ?_) (Ev.now _)⟩
    simp only [spec_l1New.l0]; rw [if_neg (by omega)]
  | succ d ih =>
    intro i s hi
    by_cases h : (i : Int) < 4000
    · obtain ⟨s', h'⟩ := ih (i + 1) (Go.bits .and .i64 (wrap64 ((wrap64 ((wrap64 (s * 131)) + (wrap64 (rd b (i : Int))))) + 7)) 1073741823) (by omega)
      refine ⟨s', Ev.step (fun k => ?_) h'⟩
      simp only [spec_l1New.l0]
      rw [if_pos (by omega), if_pos h, if_pos (by omega), c_w1 i (by omega)]
    · refine ⟨s, Ev.step (f := fun _ => some (b, 0, s)) (fun k => ?_) (Ev.now _)⟩
      simp only [spec_l1New.l0]; rw [if_pos (by omega), if_neg h]
theorem d_new (b : List Int) (hb : b.length ≤ 1048576) : ∃ s', Ev (fun k => spec_l1New.f k b) (b, 0, s') := by
  unfold spec_l1New.f
  exact d_new_l b hb b.length 0 _ (by omega)

end Go.Proofs.Ytmidcafamppkeaa.P
