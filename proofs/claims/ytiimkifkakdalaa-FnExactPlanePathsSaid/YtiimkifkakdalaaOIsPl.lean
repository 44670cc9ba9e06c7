/- The method isPlane of impl.plane: what a call of it computes. Conditions: the plane's block and its rows. -/
import Derived.Test.YtiimkifkakdalaaOPlAt
namespace Go.Proofs.Ytiimkifkakdalaa.P
open Go.RowKit Go.Proofs.YtiimkifkakdalaaW.PrintWords Go.Proofs.YtiimkifkakdalaaW.PrintLast Go.Proofs.YtiimkifkakdalaaW.PrintMore
set_option linter.unusedVariables false
set_option linter.unusedSimpArgs false

def impl_plane_isPlane.l0 : Nat → Int → List Int → Int → Option Bool
  | 0, _, _, _ => none
  | k + 1, x1, x10, x12 => if x12 < (x10.length : Int) then (if 0 ≤ x12 then (if Go.bits .and .i64 (shr .i64 x1 x12) 1 = 1 then (if Go.bits .and .i64 (rd x10 x12) x1 = 0 then (impl_plane_isPlane.l0 k x1 x10 (wrap64 (x12 + 1))) else (some false)) else (impl_plane_isPlane.l0 k x1 x10 (wrap64 (x12 + 1)))) else none) else (some true)
def impl_plane_isPlane.f (k : Nat) (rows : List Int) (e : Int) : Option Bool := impl_plane_isPlane.l0 k e rows 0
theorem impl_plane_isPlane.mono_l : ∀ k, (∀ y0 y1 y2, LeO (impl_plane_isPlane.l0 k y0 y1 y2) (impl_plane_isPlane.l0 (k + 1) y0 y1 y2))
  | 0 => fun _ _ _ r h => by simp [impl_plane_isPlane.l0] at h
  | k + 1 => by
    have ih0 := impl_plane_isPlane.mono_l k
    intro y0 y1 y2
    unfold impl_plane_isPlane.l0
    repeat' first
      | (with_reducible exact ih0 _ _ _)
      | (with_reducible exact LeO.refl _)
      | (with_reducible refine LeO.ite ?_ ?_)
theorem impl_plane_isPlane.mono : ∀ a0 a1 k, LeO (impl_plane_isPlane.f k a0 a1) (impl_plane_isPlane.f (k + 1) a0 a1) := fun a0 a1 k => impl_plane_isPlane.mono_l k _ _ _
set_option maxHeartbeats 8000000 in
set_option maxRecDepth 100000 in
theorem impl_plane_isPlane.calls (k : Nat) (g : Nat) (rows : List Int) (all : Int) (a1 : Int) (r : Bool) (w : World) (hP : PlaneAt w g rows all) (h : impl_plane_isPlane.f k rows a1 = some r) :
    Calls Try.prog 70 #[.pointer (some ⟨g, 0, none⟩), .int .i64 a1] w fun e w' => e = .returned (.bool r) ∧ w = w' := by
  have H : impl_plane_isPlane.l0 k a1 rows 0 = some r := h
  clear h
  have H' := Aside0.mk H
  clear H
  obtain ⟨A0, A1, c1, hb, hC⟩ := hP
  have HC := Aside0.mk hC
  have BK := Aside0.mk hb
  clear hC hb
  have hc1 := bc BK 1
  go_enter Try.func70, Try.ntmps70
  go_wp2
  go_loopg [12] k (fun kq v12 w' => ∃ (x12_1 : Int), v12 = .int .i64 x12_1 ∧ Aside0 (impl_plane_isPlane.l0 kq a1 rows x12_1 = some r) ∧ Aside0 (kq ≤ k) ∧ w = w')
  case atStart => exact ⟨0, (by first | rfl | (simp; done)), H', ⟨Nat.le_refl _⟩, rfl⟩
  case round =>
    clear H' hc1
    obtain ⟨x12_1, rfl, HA, HK1, rfl⟩ := hrel
    cases gk with
    | zero => exact absurd HA.out (by simp [impl_plane_isPlane.l0])
    | succ k1 =>
      have H := HA.out
      clear HA
      simp only [impl_plane_isPlane.l0] at H
      by_cases c4 : x12_1 < (rows.length : Int)
      · rw [if_pos c4] at H
        have c4b0 : decide (x12_1 < (rows.length : Int)) = true := decide_eq_true c4
        by_cases c5 : 0 ≤ x12_1
        · rw [if_pos c5] at H
          have c5b0 : decide (0 ≤ x12_1) = true := decide_eq_true c5
          have c7b0 : (0 ≤ x12_1) = True := eq_true c5
          have c7b1 : (x12_1 < (rows.length : Int)) = True := eq_true c4
          obtain ⟨ad, he, hx⟩ := Kd.at_int HC.out x12_1 c5 c4
          cases he
          clear c4 c5
          obtain ⟨ji8, hji8⟩ : ∃ j_ : Int, (shr .i64 a1 x12_1) = j_ := ⟨_, rfl⟩
          rw [hji8] at H
          have hji8_ : (a1 / 2 ^ min x12_1.toNat 64) = ji8 := hji8
          have hji8z : x12_1 ≤ 64 → (a1 / 2 ^ x12_1.toNat) = ji8 := shr_small hji8
          by_cases c9 : Go.bits .and .i64 ji8 1 = 1
          · rw [if_pos c9] at H
            have c9b0 : (Go.bits .and .i64 ji8 1 == 1) = true := beq_iff_eq.mpr c9
            clear c9
            by_cases c10 : Go.bits .and .i64 (rd rows x12_1) a1 = 0
            · rw [if_pos c10] at H
              have c10b0 : (Go.bits .and .i64 (rd rows x12_1) a1 == 0) = true := beq_iff_eq.mpr c10
              have c10b1 : (Go.bits .and .i64 (rd rows x12_1) a1 != 0) = false := bne_eq_false_iff_eq.mpr c10
              clear c10
              have H' := Aside0.mk H
              clear H hji8
              go_wp2
              go_roundg k1
              case measure => have := HK1.out; omega
              case rel => exact ⟨(wrap64 (x12_1 + 1)), (by first | rfl | (simp; done) | (simp [*]; done)), H', ⟨by have := HK1.out; omega⟩, rfl⟩
            · rw [if_neg c10] at H
              have c10b0 : (Go.bits .and .i64 (rd rows x12_1) a1 == 0) = false := beq_eq_false_iff_ne.mpr c10
              have c10b1 : (Go.bits .and .i64 (rd rows x12_1) a1 != 0) = true := bne_iff_ne.mpr c10
              obtain rfl := Option.some.inj H
              clear H hji8 c10
              go_wp2
              go_ret
              exact ⟨rfl, rfl⟩
          · rw [if_neg c9] at H
            have c9b0 : (Go.bits .and .i64 ji8 1 == 1) = false := beq_eq_false_iff_ne.mpr c9
            clear c9
            have H' := Aside0.mk H
            clear H hji8
            go_wp2
            go_roundg k1
            case measure => have := HK1.out; omega
            case rel => exact ⟨(wrap64 (x12_1 + 1)), (by first | rfl | (simp; done) | (simp [*]; done)), H', ⟨by have := HK1.out; omega⟩, rfl⟩
        · rw [if_neg c5] at H
          exact absurd H (by simp)
      · rw [if_neg c4] at H
        have c4b0 : decide (x12_1 < (rows.length : Int)) = false := decide_eq_false c4
        clear c4
        obtain rfl := Option.some.inj H
        clear H
        go_wp2
        go_ret
        exact ⟨rfl, rfl⟩

end Go.Proofs.Ytiimkifkakdalaa.P
