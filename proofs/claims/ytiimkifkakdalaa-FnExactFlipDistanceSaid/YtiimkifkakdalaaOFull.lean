/- The methods isFull and flip of impl.plane: what a call of them computes. Conditions: the plane's block and its rows. -/
import Derived.Test.YtiimkifkakdalaaOPlAt
namespace Go.Proofs.Ytiimkifkakdalaa.P
open Go.RowKit Go.Proofs.YtiimkifkakdalaaW.PrintWords Go.Proofs.YtiimkifkakdalaaW.PrintLast Go.Proofs.YtiimkifkakdalaaW.PrintMore
set_option linter.unusedVariables false
set_option linter.unusedSimpArgs false

def impl_plane_isFull.l0 : Nat → Int → List Int → Int → Option Bool
  | 0, _, _, _ => none
  | k + 1, x1, x10, x12 => if x12 < (x10.length : Int) then (if 0 ≤ x12 then (if (((Go.bits .and .i64 (shr .i64 x1 x12) 1) == 1) != ((Go.bits .and .i64 (rd x10 x12) x1) == 0)) = true then (some false) else (impl_plane_isFull.l0 k x1 x10 (wrap64 (x12 + 1)))) else none) else (some true)
def impl_plane_isFull.f (k : Nat) (rows : List Int) (e : Int) : Option Bool := impl_plane_isFull.l0 k e rows 0
theorem impl_plane_isFull.mono_l : ∀ k, (∀ y0 y1 y2, LeO (impl_plane_isFull.l0 k y0 y1 y2) (impl_plane_isFull.l0 (k + 1) y0 y1 y2))
  | 0 => fun _ _ _ r h => by simp [impl_plane_isFull.l0] at h
  | k + 1 => by
    have ih0 := impl_plane_isFull.mono_l k
    intro y0 y1 y2
    unfold impl_plane_isFull.l0
    repeat' first
      | (with_reducible exact ih0 _ _ _)
      | (with_reducible exact LeO.refl _)
      | (with_reducible refine LeO.ite ?_ ?_)
theorem impl_plane_isFull.mono : ∀ a0 a1 k, LeO (impl_plane_isFull.f k a0 a1) (impl_plane_isFull.f (k + 1) a0 a1) := fun a0 a1 k => impl_plane_isFull.mono_l k _ _ _
set_option maxHeartbeats 8000000 in
set_option maxRecDepth 100000 in
theorem impl_plane_isFull.calls (k : Nat) (g : Nat) (rows : List Int) (all : Int) (a1 : Int) (r : Bool) (w : World) (hP : PlaneAt w g rows all) (h : impl_plane_isFull.f k rows a1 = some r) :
    Calls Try.prog 84 #[.pointer (some ⟨g, 0, none⟩), .int .i64 a1] w fun e w' => e = .returned (.bool r) ∧ w = w' := by
  have H : impl_plane_isFull.l0 k a1 rows 0 = some r := h
  clear h
  have H' := Aside0.mk H
  clear H
  obtain ⟨A0, A1, c1, hb, hC⟩ := hP
  have HC := Aside0.mk hC
  have BK := Aside0.mk hb
  clear hC hb
  have hc1 := bc BK 1
  go_enter Try.func84, Try.ntmps84
  go_wp2
  go_loopg [12] k (fun kq v12 w' => ∃ (x12_1 : Int), v12 = .int .i64 x12_1 ∧ Aside0 (impl_plane_isFull.l0 kq a1 rows x12_1 = some r) ∧ Aside0 (kq ≤ k) ∧ w = w')
  case atStart => exact ⟨0, (by first | rfl | (simp; done)), H', ⟨Nat.le_refl _⟩, rfl⟩
  case round =>
    clear H' hc1
    obtain ⟨x12_1, rfl, HA, HK1, rfl⟩ := hrel
    cases gk with
    | zero => exact absurd HA.out (by simp [impl_plane_isFull.l0])
    | succ k1 =>
      have H := HA.out
      clear HA
      simp only [impl_plane_isFull.l0] at H
      by_cases c4 : x12_1 < (rows.length : Int)
      · rw [if_pos c4] at H
        have c4b0 : decide (x12_1 < (rows.length : Int)) = true := decide_eq_true c4
        by_cases c5 : 0 ≤ x12_1
        · rw [if_pos c5] at H
          have c5b0 : decide (0 ≤ x12_1) = true := decide_eq_true c5
          have c7b0 : (0 ≤ x12_1) = True := eq_true c5
          have c7b1 : (x12_1 < (rows.length : Int)) = True := eq_true c4
          obtain ⟨ad, he, hx⟩ := Kd.at_int HC.out x12_1 c5 c4
          cases he
          clear c4 c5
          obtain ⟨ji8, hji8⟩ : ∃ j_ : Int, (shr .i64 a1 x12_1) = j_ := ⟨_, rfl⟩
          rw [hji8] at H
          have hji8_ : (a1 / 2 ^ min x12_1.toNat 64) = ji8 := hji8
          have hji8z : x12_1 ≤ 64 → (a1 / 2 ^ x12_1.toNat) = ji8 := shr_small hji8
          by_cases c9 : (((Go.bits .and .i64 (ji8) 1) == 1) != ((Go.bits .and .i64 (rd rows x12_1) a1) == 0)) = true
          · rw [if_pos c9] at H
            have c9b0 : (((Go.bits .and .i64 (ji8) 1) == 1) != ((Go.bits .and .i64 (rd rows x12_1) a1) == 0)) = true := c9
            have c9b1 : decide (((Go.bits .and .i64 (ji8) 1) == 1) = ((Go.bits .and .i64 (rd rows x12_1) a1) == 0)) = false := by simpa using c9
            have c9b2 : (((Go.bits .and .i64 (ji8) 1) == 1) == ((Go.bits .and .i64 (rd rows x12_1) a1) == 0)) = false := by simpa using c9
            have c9b3 : ¬ (((Go.bits .and .i64 (ji8) 1) == 1) = ((Go.bits .and .i64 (rd rows x12_1) a1) == 0)) := by simpa using c9
            clear c9
            obtain rfl := Option.some.inj H
            clear H
            go_wp2
            go_ret
            exact ⟨rfl, rfl⟩
          · rw [if_neg c9] at H
            have c9b0 : (((Go.bits .and .i64 (ji8) 1) == 1) != ((Go.bits .and .i64 (rd rows x12_1) a1) == 0)) = false := by simpa using c9
            have c9b1 : decide (((Go.bits .and .i64 (ji8) 1) == 1) = ((Go.bits .and .i64 (rd rows x12_1) a1) == 0)) = true := by simpa using c9
            have c9b2 : (((Go.bits .and .i64 (ji8) 1) == 1) == ((Go.bits .and .i64 (rd rows x12_1) a1) == 0)) = true := by simpa using c9
            clear c9
            have H' := Aside0.mk H
            clear H
            go_wp2
            go_roundg k1
            case measure => have := HK1.out; omega
            case rel => exact ⟨(wrap64 (x12_1 + 1)), (by first | rfl | (simp; done) | (simp [*]; done)), H', ⟨by have := HK1.out; omega⟩, rfl⟩
        · rw [if_neg c5] at H
          exact absurd H (by simp)
      · rw [if_neg c4] at H
        have c4b0 : decide (x12_1 < (rows.length : Int)) = false := decide_eq_false c4
        clear c4
        obtain rfl := Option.some.inj H
        clear H
        go_wp2
        go_ret
        exact ⟨rfl, rfl⟩

def impl_plane_flip.l0 : Nat → Int → Int → Int → Int → List Int → Int → Option (Int × Bool)
  | 0, _, _, _, _, _, _ => none
  | k + 1, x1, x2, x8, x9, rows, x17 => if x17 < (rows.length : Int) then (if 0 ≤ x17 then (if 0 ≤ x2 then (if (Go.bits .and .i64 (shr .i64 x1 x17) 1) = 0 then ((impl_plane_isFull.f k rows (Go.bits .or .i64 (Go.bits .andNot .i64 x1 (shl .i64 1 x2)) (shl .i64 1 x17))).bind fun b => (if b = true then (impl_plane_flip.l0 k x1 x2 (Go.bits .or .i64 (Go.bits .andNot .i64 x1 (shl .i64 1 x2)) (shl .i64 1 x17)) (wrap64 (x9 + 1)) rows (wrap64 (x17 + 1))) else (impl_plane_flip.l0 k x1 x2 x8 x9 rows (wrap64 (x17 + 1))))) else (impl_plane_flip.l0 k x1 x2 x8 x9 rows (wrap64 (x17 + 1)))) else none) else none) else (if x9 = 1 then (some (x8, true)) else (some (0, false)))
def impl_plane_flip.f (k : Nat) (rows : List Int) (e i : Int) : Option (Int × Bool) := impl_plane_flip.l0 k e i 0 0 rows 0
theorem impl_plane_flip.mono_l : ∀ k, (∀ y0 y1 y2 y3 y4 y5, LeO (impl_plane_flip.l0 k y0 y1 y2 y3 y4 y5) (impl_plane_flip.l0 (k + 1) y0 y1 y2 y3 y4 y5))
  | 0 => fun _ _ _ _ _ _ r h => by simp [impl_plane_flip.l0] at h
  | k + 1 => by
    have ih0 := impl_plane_flip.mono_l k
    intro y0 y1 y2 y3 y4 y5
    unfold impl_plane_flip.l0
    repeat' first
      | (with_reducible exact ih0 _ _ _ _ _ _)
      | (with_reducible exact impl_plane_isFull.mono _ _ _)
      | (with_reducible exact LeO.refl _)
      | (with_reducible refine LeO.ite ?_ ?_)
      | (with_reducible refine LeO.bind ?_ (fun _ => ?_))
theorem impl_plane_flip.mono : ∀ a0 a1 a2 k, LeO (impl_plane_flip.f k a0 a1 a2) (impl_plane_flip.f (k + 1) a0 a1 a2) := fun a0 a1 a2 k => impl_plane_flip.mono_l k _ _ _ _ _ _
set_option maxHeartbeats 8000000 in
set_option maxRecDepth 100000 in
theorem impl_plane_flip.calls (k : Nat) (g : Nat) (rows : List Int) (all : Int) (a1 a2 : Int) (r : Int × Bool) (w : World) (hP : PlaneAt w g rows all) (h : impl_plane_flip.f k rows a1 a2 = some r) :
    Calls Try.prog 88 #[.pointer (some ⟨g, 0, none⟩), .int .i64 a1, .int .i64 a2] w fun e w' => e = .returned (.tuple #[.int .i64 r.1, .bool r.2]) ∧ ∃ m, w' = w.drewN m := by
  have H : impl_plane_flip.l0 k a1 a2 0 0 rows 0 = some r := h
  clear h
  have H' := Aside0.mk H
  clear H
  have HP := Aside0.mk hP
  obtain ⟨A0, A1, c1, hb, hC⟩ := hP
  have BK := Aside0.mk hb
  clear hC hb
  have hc1 := bc BK 1
  go_enter Try.func88, Try.ntmps88
  go_wp2
  go_loopg [8, 9, 17] k (fun kq v8 v9 v17 w' => ∃ (x8 x9 x17 : Int) (m : Nat), v8 = .int .i64 x8 ∧ v9 = .int .i64 x9 ∧ v17 = .int .i64 x17 ∧ Aside0 (impl_plane_flip.l0 kq a1 a2 x8 x9 rows x17 = some r) ∧ Aside0 (kq ≤ k) ∧ w' = w.drewN m)
  case atStart => exact ⟨0, 0, 0, 0, rfl, rfl, rfl, H', ⟨Nat.le_refl _⟩, rfl⟩
  case round =>
    clear H' hc1
    obtain ⟨x8, x9, x17, m, rfl, rfl, rfl, HA, HK1, rfl⟩ := hrel
    cases gk with
    | zero => exact absurd HA.out (by simp [impl_plane_flip.l0])
    | succ k1 =>
      have H := HA.out
      clear HA
      simp only [impl_plane_flip.l0] at H
      by_cases c4 : x17 < (rows.length : Int)
      · rw [if_pos c4] at H
        have c4b0 : decide (x17 < (rows.length : Int)) = true := decide_eq_true c4
        clear c4
        by_cases c5 : 0 ≤ x17
        · rw [if_pos c5] at H
          have c5b0 : decide (0 ≤ x17) = true := decide_eq_true c5
          have c5b1 : (0 ≤ x17) = True := eq_true c5
          clear c5
          by_cases c6 : 0 ≤ a2
          · rw [if_pos c6] at H
            have c6b0 : decide (0 ≤ a2) = true := decide_eq_true c6
            have c6b1 : (0 ≤ a2) = True := eq_true c6
            clear c6
            obtain ⟨s1, hs1⟩ : ∃ j_ : Int, (shl .i64 1 a2) = j_ := ⟨_, rfl⟩
            obtain ⟨s2, hs2⟩ : ∃ j_ : Int, (shl .i64 1 x17) = j_ := ⟨_, rfl⟩
            obtain ⟨s3, hs3⟩ : ∃ j_ : Int, (shr .i64 a1 x17) = j_ := ⟨_, rfl⟩
            rw [hs1, hs2, hs3] at H
            have HS := Aside0.mk (And.intro hs1 (And.intro hs2 hs3))
            have hs1_ : (IntKind.i64.wrap (1 * 2 ^ min a2.toNat 64)) = s1 := hs1
            have hs1z : a2 ≤ 64 → (IntKind.i64.wrap (1 * 2 ^ a2.toNat)) = s1 := shl_small hs1
            have hs1w : wrap64 (2 ^ min a2.toNat 64) = s1 := by rw [← hs1]; unfold shl; rw [Int.one_mul, i64_w]; rfl
            have hs2w : wrap64 (2 ^ min x17.toNat 64) = s2 := by rw [← hs2]; unfold shl; rw [Int.one_mul, i64_w]; rfl
            have hs2_ : (IntKind.i64.wrap (1 * 2 ^ min x17.toNat 64)) = s2 := hs2
            have hs2z : x17 ≤ 64 → (IntKind.i64.wrap (1 * 2 ^ x17.toNat)) = s2 := shl_small hs2
            have hs3_ : (a1 / 2 ^ min x17.toNat 64) = s3 := hs3
            have hs3z : x17 ≤ 64 → (a1 / 2 ^ x17.toNat) = s3 := shr_small hs3
            clear hs1 hs2 hs3
            by_cases c7 : Go.bits .and .i64 s3 1 = 0
            · rw [if_pos c7] at H
              have c7b0 : (Go.bits .and .i64 s3 1 == 0) = true := beq_iff_eq.mpr c7
              have c7b1 : (Go.bits .and .i64 s3 1 != 0) = false := bne_eq_false_iff_eq.mpr c7
              clear c7
              replace H := Option.bind_eq_some_iff.mp H
              obtain ⟨b, A5, H⟩ := H
              replace A5 := Aside0.mk A5
              cases b with
              | true =>
                rw [if_pos rfl] at H
                have H' := Aside0.mk H
                clear H
                go_wp2
                go_quiet (fail)
                go_wp2_with (first | (go_at_call 84; (with_reducible refine (impl_plane_isFull.calls k1 g rows all _ true _ (by (with_reducible repeat (first | apply PlaneAt.drewN | apply PlaneAt.drew)); exact HP.out) A5.out).mono ?_); rintro e w6 ⟨rfl, rfl⟩))
                go_roundg k1
                case measure => have := HK1.out; omega
                case rel => exact ⟨_, (wrap64 (x9 + 1)), (wrap64 (x17 + 1)), _, rfl, (by first | rfl | (simp; done) | (simp [*]; done)), (by first | rfl | (simp; done) | (simp [*]; done)), H', ⟨by have := HK1.out; omega⟩, (by first | rfl | exact World.drewN_drewN _ _ _)⟩
              | false =>
                rw [if_neg (by simp)] at H
                have H' := Aside0.mk H
                clear H
                go_wp2
                go_quiet (fail)
                go_wp2_with (first | (go_at_call 84; (with_reducible refine (impl_plane_isFull.calls k1 g rows all _ false _ (by (with_reducible repeat (first | apply PlaneAt.drewN | apply PlaneAt.drew)); exact HP.out) A5.out).mono ?_); rintro e w6 ⟨rfl, rfl⟩))
                go_roundg k1
                case measure => have := HK1.out; omega
                case rel => exact ⟨x8, x9, (wrap64 (x17 + 1)), _, rfl, rfl, (by first | rfl | (simp; done) | (simp [*]; done)), H', ⟨by have := HK1.out; omega⟩, (by first | rfl | exact World.drewN_drewN _ _ _)⟩
            · rw [if_neg c7] at H
              have c7b0 : (Go.bits .and .i64 s3 1 == 0) = false := beq_eq_false_iff_ne.mpr c7
              have c7b1 : (Go.bits .and .i64 s3 1 != 0) = true := bne_iff_ne.mpr c7
              clear c7
              have H' := Aside0.mk H
              clear H
              go_wp2
              go_quiet (fail)
              go_wp2
              go_roundg k1
              case measure => have := HK1.out; omega
              case rel => exact ⟨x8, x9, (wrap64 (x17 + 1)), _, rfl, rfl, (by first | rfl | (simp; done) | (simp [*]; done)), H', ⟨by have := HK1.out; omega⟩, (by first | rfl | exact World.drewN_drewN _ _ _)⟩
          · rw [if_neg c6] at H
            exact absurd H (by simp)
        · rw [if_neg c5] at H
          exact absurd H (by simp)
      · rw [if_neg c4] at H
        have c4b0 : decide (x17 < (rows.length : Int)) = false := decide_eq_false c4
        clear c4
        by_cases c9 : x9 = 1
        · rw [if_pos c9] at H
          obtain rfl := Option.some.inj H
          subst c9
          clear H
          go_wp2
          go_ret2
          exact ⟨rfl, _, rfl⟩
        · rw [if_neg c9] at H
          have c9b0 : (x9 == 1) = false := beq_eq_false_iff_ne.mpr c9
          have c9b1 : (x9 != 1) = true := bne_iff_ne.mpr c9
          obtain rfl := Option.some.inj H
          clear H c9
          go_wp2
          go_ret2
          exact ⟨rfl, _, rfl⟩

end Go.Proofs.Ytiimkifkakdalaa.P
