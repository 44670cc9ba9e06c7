/- impl.SignDistance: what a call of it computes. Conditions: none. -/
import Derived.Test.YtfgnijcclnleaaaP17
import Derived.Laws.RangeString
namespace Go.Proofs.Ytfgnijcclnleaaa.P
open Go.RowKit Go.Proofs.YtfgnijcclnleaaaW.PrintWords Go.Proofs.YtfgnijcclnleaaaW.PrintLast Go.Proofs.YtfgnijcclnleaaaW.PrintMore
set_option linter.unusedVariables false
set_option linter.unusedSimpArgs false

def impl_SignDistance.l0 : Nat → ByteArray → ByteArray → Nat → Int → Option Int
  | 0, _, _, _, _ => none
  | k + 1, s, t, p, x => if p < s.size then (if bt s (p : Int) < 128 then (if p < t.size then (if bt s (p : Int) = bt t (p : Int) then impl_SignDistance.l0 k s t (p + 1) x else impl_SignDistance.l0 k s t (p + 1) (wrap64 (x + 1))) else none) else none) else some x
def impl_SignDistance.f (k : Nat) (n : Int) (s : ByteArray) (m : Int) (t : ByteArray) : Option Int := (impl_AreSigns.f k n s).bind fun b => if b = true then ((impl_AreSigns.f k m t).bind fun c => if c = true then (if n = m then (if s.size < 4611686018427387904 then impl_SignDistance.l0 k s t 0 0 else none) else some (-1)) else some (-1)) else some (-1)
theorem impl_SignDistance.mono_l : ∀ k, (∀ y0 y1 y2 y3, LeO (impl_SignDistance.l0 k y0 y1 y2 y3) (impl_SignDistance.l0 (k + 1) y0 y1 y2 y3))
  | 0 => fun _ _ _ _ r h => by simp [impl_SignDistance.l0] at h
  | k + 1 => by
    have ih0 := impl_SignDistance.mono_l k
    intro y0 y1 y2 y3
    unfold impl_SignDistance.l0
    repeat' first
      | (with_reducible exact ih0 _ _ _ _)
      | (with_reducible exact LeO.refl _)
      | (with_reducible refine LeO.ite ?_ ?_)
theorem impl_SignDistance.mono : ∀ a0 a1 a2 a3 k, LeO (impl_SignDistance.f k a0 a1 a2 a3) (impl_SignDistance.f (k + 1) a0 a1 a2 a3) := by
  intro a0 a1 a2 a3 k
  have ih0 := impl_SignDistance.mono_l k
  unfold impl_SignDistance.f
  repeat' first
    | (with_reducible exact ih0 _ _ _ _)
    | (with_reducible exact impl_AreSigns.mono _ _ _)
    | (with_reducible exact LeO.refl _)
    | (with_reducible refine LeO.ite ?_ ?_)
    | (with_reducible refine LeO.bind ?_ (fun _ => ?_))
theorem iter_drewN (w : World) (s : ByteArray) (p d : Nat) : (w.iter s p).drewN d = (w.drewN d).iter s p := rfl
theorem iter_drewN2 (w : World) (s : ByteArray) (p m d : Nat) : ((w.drewN m).iter s p).drewN d = (w.drewN (m + d)).iter s p := by rw [iter_drewN, World.drewN_drewN]
set_option maxHeartbeats 8000000 in
set_option maxRecDepth 100000 in
theorem impl_SignDistance.calls (k : Nat) (a0_0 : Int) (a0_1 : ByteArray) (a1_0 : Int) (a1_1 : ByteArray) (r : Int) (w : World) (h : impl_SignDistance.f k a0_0 a0_1 a1_0 a1_1 = some r) :
    Calls Try.prog 20 #[.agg #[.int .i64 a0_0, .string a0_1], .agg #[.int .i64 a1_0, .string a1_1]] w fun e w' => e = .returned (.int .i64 r) ∧ Below w.heap.size w w' := by
  have hu37 := Try.underlying37
  have HB := Aside0.mk (Below.refl w.heap.size w)
  have H := h
  clear h
  unfold impl_SignDistance.f at H
  replace H := Option.bind_eq_some_iff.mp H
  obtain ⟨b, A1, H⟩ := H
  replace A1 := Aside0.mk A1
  cases b with
  | false =>
    rw [if_neg (by simp)] at H
    obtain rfl := Option.some.inj H
    clear H
    go_enter Try.func20, Try.ntmps20
    go_wp2_with (first | ((with_reducible refine gate_dst (N := 2) rfl ?_); refine bx 2 #[.int .i64 a0_0, .string a0_1] 37 ?_; intro g3 hg w3 hbox hb; have BK3 := Aside0.mk hbox; replace HB := bs HB hb; clear hb hbox hg) | ((with_reducible refine gate_dst (N := 3) rfl ?_); refine bx 3 #[.int .i64 a1_0, .string a1_1] 37 ?_; intro g4 hg w4 hbox hb; have n3_ := Aside0.mk (blk_below (g := g3) (o := .cells #[.int .i64 a0_0, .string a0_1] 37 (0, 0)) (bk BK3) hb); clear BK3; have BK3 := n3_; have BK4 := Aside0.mk hbox; clear n3_; replace HB := bs HB hb; clear hb hbox hg; have z30 := bc BK3 0; have z31 := bc BK3 1; have f30 := bf BK3 0; have f31 := bf BK3 1; have z40 := bc BK4 0; have z41 := bc BK4 1; have f40 := bf BK4 0; have f41 := bf BK4 1) | ((with_reducible refine gate_callee (f := 40) rfl ?_); refine gL (some 8) rfl rfl Try.func40 (by kernel_rfl) rfl #[.agg #[.int .i64 a0_0, .string a0_1]] rfl ?_; (with_reducible refine (impl_AreSigns.calls k a0_0 a0_1 _ _ A1.out).mono ?_); rintro e w5 ⟨rfl, hb⟩; refine ⟨_, rfl, ?_⟩; have n3_ := Aside0.mk (blk_below (g := g3) (o := .cells #[.int .i64 a0_0, .string a0_1] 37 (0, 0)) (bk BK3) hb); have n4_ := Aside0.mk (blk_below (g := g4) (o := .cells #[.int .i64 a1_0, .string a1_1] 37 (0, 0)) (bk BK4) hb); clear BK3 BK4; have BK3 := n3_; have BK4 := n4_; clear n3_ n4_; replace HB := bs HB hb; clear hb; have z30 := bc BK3 0; have z31 := bc BK3 1; have f30 := bf BK3 0; have f31 := bf BK3 1; have z40 := bc BK4 0; have z41 := bc BK4 1; have f40 := bf BK4 0; have f41 := bf BK4 1))
    go_ret
    exact ⟨rfl, bl HB⟩
  | true =>
    rw [if_pos rfl] at H
    replace H := Option.bind_eq_some_iff.mp H
    obtain ⟨b, A2, H⟩ := H
    replace A2 := Aside0.mk A2
    cases b with
    | false =>
      rw [if_neg (by simp)] at H
      obtain rfl := Option.some.inj H
      clear H
      go_enter Try.func20, Try.ntmps20
      go_wp2_with (first | ((with_reducible refine gate_dst (N := 2) rfl ?_); refine bx 2 #[.int .i64 a0_0, .string a0_1] 37 ?_; intro g3 hg w3 hbox hb; have BK3 := Aside0.mk hbox; replace HB := bs HB hb; clear hb hbox hg) | ((with_reducible refine gate_dst (N := 3) rfl ?_); refine bx 3 #[.int .i64 a1_0, .string a1_1] 37 ?_; intro g4 hg w4 hbox hb; have n3_ := Aside0.mk (blk_below (g := g3) (o := .cells #[.int .i64 a0_0, .string a0_1] 37 (0, 0)) (bk BK3) hb); clear BK3; have BK3 := n3_; have BK4 := Aside0.mk hbox; clear n3_; replace HB := bs HB hb; clear hb hbox hg; have z30 := bc BK3 0; have z31 := bc BK3 1; have f30 := bf BK3 0; have f31 := bf BK3 1; have z40 := bc BK4 0; have z41 := bc BK4 1; have f40 := bf BK4 0; have f41 := bf BK4 1) | ((with_reducible refine gate_callee (f := 40) rfl ?_); refine gL (some 8) rfl rfl Try.func40 (by kernel_rfl) rfl #[.agg #[.int .i64 a0_0, .string a0_1]] rfl ?_; (with_reducible refine (impl_AreSigns.calls k a0_0 a0_1 _ _ A1.out).mono ?_); rintro e w5 ⟨rfl, hb⟩; refine ⟨_, rfl, ?_⟩; have n3_ := Aside0.mk (blk_below (g := g3) (o := .cells #[.int .i64 a0_0, .string a0_1] 37 (0, 0)) (bk BK3) hb); have n4_ := Aside0.mk (blk_below (g := g4) (o := .cells #[.int .i64 a1_0, .string a1_1] 37 (0, 0)) (bk BK4) hb); clear BK3 BK4; have BK3 := n3_; have BK4 := n4_; clear n3_ n4_; replace HB := bs HB hb; clear hb; have z30 := bc BK3 0; have z31 := bc BK3 1; have f30 := bf BK3 0; have f31 := bf BK3 1; have z40 := bc BK4 0; have z41 := bc BK4 1; have f40 := bf BK4 0; have f41 := bf BK4 1) | (go_at_call 40; (with_reducible refine (impl_AreSigns.calls k a1_0 a1_1 _ _ A2.out).mono ?_); rintro e w6 ⟨rfl, hb⟩; have n3_ := Aside0.mk (blk_below (g := g3) (o := .cells #[.int .i64 a0_0, .string a0_1] 37 (0, 0)) (bk BK3) hb); have n4_ := Aside0.mk (blk_below (g := g4) (o := .cells #[.int .i64 a1_0, .string a1_1] 37 (0, 0)) (bk BK4) hb); clear BK3 BK4; have BK3 := n3_; have BK4 := n4_; clear n3_ n4_; replace HB := bs HB hb; clear hb; have z30 := bc BK3 0; have z31 := bc BK3 1; have f30 := bf BK3 0; have f31 := bf BK3 1; have z40 := bc BK4 0; have z41 := bc BK4 1; have f40 := bf BK4 0; have f41 := bf BK4 1))
      go_ret
      exact ⟨rfl, bl HB⟩
    | true =>
      rw [if_pos rfl] at H
      by_cases c1 : a0_0 = a1_0
      · rw [if_pos c1] at H
        have c1a : (a0_0 != a1_0) = false := bne_eq_false_iff_eq.mpr c1
        clear c1
        by_cases c2 : a0_1.size < 4611686018427387904
        · rw [if_pos c2] at H
          have C2 := Aside0.mk c2
          have H' := Aside0.mk H
          clear H c2
          go_enter Try.func20, Try.ntmps20
          go_wp2_with (first | ((with_reducible refine gate_dst (N := 2) rfl ?_); refine bx 2 #[.int .i64 a0_0, .string a0_1] 37 ?_; intro g3 hg w3 hbox hb; have BK3 := Aside0.mk hbox; replace HB := bs HB hb; clear hb hbox hg) | ((with_reducible refine gate_dst (N := 3) rfl ?_); refine bx 3 #[.int .i64 a1_0, .string a1_1] 37 ?_; intro g4 hg w4 hbox hb; have n3_ := Aside0.mk (blk_below (g := g3) (o := .cells #[.int .i64 a0_0, .string a0_1] 37 (0, 0)) (bk BK3) hb); clear BK3; have BK3 := n3_; have BK4 := Aside0.mk hbox; clear n3_; replace HB := bs HB hb; clear hb hbox hg; have z30 := bc BK3 0; have z31 := bc BK3 1; have f30 := bf BK3 0; have f31 := bf BK3 1; have z40 := bc BK4 0; have z41 := bc BK4 1; have f40 := bf BK4 0; have f41 := bf BK4 1) | ((with_reducible refine gate_callee (f := 40) rfl ?_); refine gL (some 8) rfl rfl Try.func40 (by kernel_rfl) rfl #[.agg #[.int .i64 a0_0, .string a0_1]] rfl ?_; (with_reducible refine (impl_AreSigns.calls k a0_0 a0_1 _ _ A1.out).mono ?_); rintro e w5 ⟨rfl, hb⟩; refine ⟨_, rfl, ?_⟩; have n3_ := Aside0.mk (blk_below (g := g3) (o := .cells #[.int .i64 a0_0, .string a0_1] 37 (0, 0)) (bk BK3) hb); have n4_ := Aside0.mk (blk_below (g := g4) (o := .cells #[.int .i64 a1_0, .string a1_1] 37 (0, 0)) (bk BK4) hb); clear BK3 BK4; have BK3 := n3_; have BK4 := n4_; clear n3_ n4_; replace HB := bs HB hb; clear hb; have z30 := bc BK3 0; have z31 := bc BK3 1; have f30 := bf BK3 0; have f31 := bf BK3 1; have z40 := bc BK4 0; have z41 := bc BK4 1; have f40 := bf BK4 0; have f41 := bf BK4 1) | (go_at_call 40; (with_reducible refine (impl_AreSigns.calls k a1_0 a1_1 _ _ A2.out).mono ?_); rintro e w6 ⟨rfl, hb⟩; have n3_ := Aside0.mk (blk_below (g := g3) (o := .cells #[.int .i64 a0_0, .string a0_1] 37 (0, 0)) (bk BK3) hb); have n4_ := Aside0.mk (blk_below (g := g4) (o := .cells #[.int .i64 a1_0, .string a1_1] 37 (0, 0)) (bk BK4) hb); clear BK3 BK4; have BK3 := n3_; have BK4 := n4_; clear n3_ n4_; replace HB := bs HB hb; clear hb; have z30 := bc BK3 0; have z31 := bc BK3 1; have f30 := bf BK3 0; have f31 := bf BK3 1; have z40 := bc BK4 0; have z41 := bc BK4 1; have f40 := bf BK4 0; have f41 := bf BK4 1))
          go_loopg [5, 6] k (fun kq v5 v6 w' => ∃ (x : Int) (p m : Nat), v5 = .int .i64 x ∧ w' = (w6.drewN m).iter a0_1 p ∧ Aside0 (impl_SignDistance.l0 kq a0_1 a1_1 p x = some r) ∧ Aside0 (kq ≤ k))
          case atStart => exact ⟨0, 0, 0, rfl, rfl, H', ⟨Nat.le_refl _⟩⟩
          case round =>
            clear H' z30 z31 z40 z41 f30 f31 f40 f41 c1a
            obtain ⟨x, p, m, rfl, rfl, HA, HK1⟩ := hrel
            have BK3' := Aside0.mk (blk_alloc (blk_drewN BK3.out m) (.stringIter a0_1 (p + 1)))
            have BK4' := Aside0.mk (blk_alloc (blk_drewN BK4.out m) (.stringIter a0_1 (p + 1)))
            have z30 : ((w6.drewN m).iter a0_1 (p + 1)).cell? ⟨g3, 0, none⟩ = some (.int .i64 a0_0) := bc BK3' 0
            have z31 : ((w6.drewN m).iter a0_1 (p + 1)).cell? ⟨g3, 1, none⟩ = some (.string a0_1) := bc BK3' 1
            have z40 : ((w6.drewN m).iter a0_1 (p + 1)).cell? ⟨g4, 0, none⟩ = some (.int .i64 a1_0) := bc BK4' 0
            have z41 : ((w6.drewN m).iter a0_1 (p + 1)).cell? ⟨g4, 1, none⟩ = some (.string a1_1) := bc BK4' 1
            cases gk with
            | zero => exact absurd HA.out (by simp [impl_SignDistance.l0])
            | succ k1 =>
              have H := HA.out
              clear HA
              simp only [impl_SignDistance.l0] at H
              by_cases c4 : p < a0_1.size
              · rw [if_pos c4] at H
                by_cases c5 : bt a0_1 (p : Int) < 128
                · rw [if_pos c5] at H
                  by_cases c6 : p < a1_1.size
                  · rw [if_pos c6] at H
                    have hnx : ∀ ty, (Instr.next (.pointer (some ⟨w6.heap.size, 0, none⟩)) true ty).run Try.prog ((w6.drewN m).iter a0_1 p) = .ok (.tuple #[.bool true, .int .i64 (p : Int), .int .i32 ((a0_1[p]'c4).toNat : Int)]) ((w6.drewN m).iter a0_1 (p + 1)) := fun ty => run_next_ascii (P := Try.prog) (w6.drewN m) a0_1 p ty c4 (by have := bt_at a0_1 (p : Int) (by simpa using c4); simp only [Int.toNat_natCast] at this; omega)
                    obtain ⟨z, hz⟩ : ∃ z : Int, (p : Int) = z := ⟨_, rfl⟩
                    obtain ⟨y, hy⟩ : ∃ y : Int, ((a0_1[p]'c4).toNat : Int) = y := ⟨_, rfl⟩
                    rw [hz] at H
                    simp only [hz, hy] at hnx
                    have q1 : (0 ≤ z) = True := eq_true (by omega)
                    have q2 : (z < (a0_1.size : Int)) = True := eq_true (by omega)
                    have q3 : (z < (a1_1.size : Int)) = True := eq_true (by omega)
                    have hx1 := bt_at a0_1 z
                    have hx2 := bt_at a1_1 z
                    have HZ := Aside0.mk (And.intro hz (And.intro c4 c6))
                    clear hz hy c4 c5 c6
                    by_cases c9 : bt a0_1 z = bt a1_1 z
                    · rw [if_pos c9] at H
                      have H' := Aside0.mk H
                      clear H
                      have c9b : (bt a0_1 z != bt a1_1 z) = false := bne_eq_false_iff_eq.mpr c9
                      clear c9
                      go_wp2
                      go_quiet (fail)
                      go_wp2
                      go_roundg k1
                      case measure => have := HK1.out; omega
                      case rel => exact ⟨x, p + 1, _, rfl, iter_drewN2 _ _ _ _ _, H', ⟨by have := HK1.out; omega⟩⟩
                    · rw [if_neg c9] at H
                      have H' := Aside0.mk H
                      clear H
                      have c9b : (bt a0_1 z != bt a1_1 z) = true := bne_iff_ne.mpr c9
                      clear c9
                      go_wp2
                      go_quiet (fail)
                      go_wp2
                      go_roundg k1
                      case measure => have := HK1.out; omega
                      case rel => exact ⟨wrap64 (x + 1), p + 1, _, (by first | rfl | (simp; done) | (simp [*]; done)), iter_drewN2 _ _ _ _ _, H', ⟨by have := HK1.out; omega⟩⟩
                  · rw [if_neg c6] at H
                    exact absurd H (by simp)
                · rw [if_neg c5] at H
                  exact absurd H (by simp)
              · rw [if_neg c4] at H
                have hnx : ∀ ty, (Instr.next (.pointer (some ⟨w6.heap.size, 0, none⟩)) true ty).run Try.prog ((w6.drewN m).iter a0_1 p) = .ok (.tuple #[.bool false]) ((w6.drewN m).iter a0_1 p) := fun ty => run_next_end (P := Try.prog) (w6.drewN m) a0_1 p ty c4
                obtain rfl := Option.some.inj H
                clear H c4
                go_wp2
                go_ret
                exact ⟨rfl, below_alloc (pw_below_drewN HB.out _) _⟩
        · rw [if_neg c2] at H
          exact absurd H (by simp)
      · rw [if_neg c1] at H
        have c1a : (a0_0 != a1_0) = true := bne_iff_ne.mpr c1
        clear c1
        obtain rfl := Option.some.inj H
        clear H
        go_enter Try.func20, Try.ntmps20
        go_wp2_with (first | ((with_reducible refine gate_dst (N := 2) rfl ?_); refine bx 2 #[.int .i64 a0_0, .string a0_1] 37 ?_; intro g3 hg w3 hbox hb; have BK3 := Aside0.mk hbox; replace HB := bs HB hb; clear hb hbox hg) | ((with_reducible refine gate_dst (N := 3) rfl ?_); refine bx 3 #[.int .i64 a1_0, .string a1_1] 37 ?_; intro g4 hg w4 hbox hb; have n3_ := Aside0.mk (blk_below (g := g3) (o := .cells #[.int .i64 a0_0, .string a0_1] 37 (0, 0)) (bk BK3) hb); clear BK3; have BK3 := n3_; have BK4 := Aside0.mk hbox; clear n3_; replace HB := bs HB hb; clear hb hbox hg; have z30 := bc BK3 0; have z31 := bc BK3 1; have f30 := bf BK3 0; have f31 := bf BK3 1; have z40 := bc BK4 0; have z41 := bc BK4 1; have f40 := bf BK4 0; have f41 := bf BK4 1) | ((with_reducible refine gate_callee (f := 40) rfl ?_); refine gL (some 8) rfl rfl Try.func40 (by kernel_rfl) rfl #[.agg #[.int .i64 a0_0, .string a0_1]] rfl ?_; (with_reducible refine (impl_AreSigns.calls k a0_0 a0_1 _ _ A1.out).mono ?_); rintro e w5 ⟨rfl, hb⟩; refine ⟨_, rfl, ?_⟩; have n3_ := Aside0.mk (blk_below (g := g3) (o := .cells #[.int .i64 a0_0, .string a0_1] 37 (0, 0)) (bk BK3) hb); have n4_ := Aside0.mk (blk_below (g := g4) (o := .cells #[.int .i64 a1_0, .string a1_1] 37 (0, 0)) (bk BK4) hb); clear BK3 BK4; have BK3 := n3_; have BK4 := n4_; clear n3_ n4_; replace HB := bs HB hb; clear hb; have z30 := bc BK3 0; have z31 := bc BK3 1; have f30 := bf BK3 0; have f31 := bf BK3 1; have z40 := bc BK4 0; have z41 := bc BK4 1; have f40 := bf BK4 0; have f41 := bf BK4 1) | (go_at_call 40; (with_reducible refine (impl_AreSigns.calls k a1_0 a1_1 _ _ A2.out).mono ?_); rintro e w6 ⟨rfl, hb⟩; have n3_ := Aside0.mk (blk_below (g := g3) (o := .cells #[.int .i64 a0_0, .string a0_1] 37 (0, 0)) (bk BK3) hb); have n4_ := Aside0.mk (blk_below (g := g4) (o := .cells #[.int .i64 a1_0, .string a1_1] 37 (0, 0)) (bk BK4) hb); clear BK3 BK4; have BK3 := n3_; have BK4 := n4_; clear n3_ n4_; replace HB := bs HB hb; clear hb; have z30 := bc BK3 0; have z31 := bc BK3 1; have f30 := bf BK3 0; have f31 := bf BK3 1; have z40 := bc BK4 0; have z41 := bc BK4 1; have f40 := bf BK4 0; have f41 := bf BK4 1))
        go_ret
        exact ⟨rfl, bl HB⟩

end Go.Proofs.Ytfgnijcclnleaaa.P
