/- impl.SlopeBefore, impl.areNear, its closure, slices.ContainsFunc and slices.IndexFunc over four points: what a call of them computes. Conditions: none. -/
import Derived.Test.YtfgnijcclnleaaaP35
namespace Go.Proofs.Ytfgnijcclnleaaa.P
open Go.RowKit Go.Proofs.YtfgnijcclnleaaaW.PrintWords Go.Proofs.YtfgnijcclnleaaaW.PrintLast Go.Proofs.YtfgnijcclnleaaaW.PrintMore
set_option linter.unusedVariables false
set_option linter.unusedSimpArgs false

/-- Whether a point is far. -/
def dFar (m : Int) (p : Int × Int) : Option Bool := (impl_isFar.f p.1 m).bind fun b => if b = true then some true else impl_isFar.f p.2 m
set_option maxHeartbeats 8000000 in
set_option maxRecDepth 100000 in
theorem impl_areNear_1.calls (g : Nat) (m x y : Int) (r : Bool) (w : World) (hc : w.cell? ⟨g, 0, none⟩ = some (.int .i64 m)) (h : dFar m (x, y) = some r) :
    Calls Try.prog 51 #[.agg #[.int .i64 x, .int .i64 y], .pointer (some ⟨g, 0, none⟩)] w fun e w' => e = .returned (.bool r) ∧ Below w.heap.size w w' := by
  have hu := Try.underlying30
  have HB := Aside0.mk (Below.refl w.heap.size w)
  unfold dFar at h
  replace h := Option.bind_eq_some_iff.mp h
  obtain ⟨b, A1, H⟩ := h
  replace A1 := Aside0.mk A1
  have HCE := Aside0.mk hc
  clear hc
  cases b with
  | true =>
    rw [if_pos rfl] at H
    obtain rfl := Option.some.inj H
    clear H
    go_enter Try.func51, Try.ntmps51
    go_wp2_with (first | ((with_reducible refine gate_dst (N := 2) rfl ?_); refine bx 2 #[.int .i64 x, .int .i64 y] 30 ?_; intro g3 hg w3 hbox hb; have BK3 := Aside0.mk hbox; have hz := (hb.cell (World.block_lt_of_cell? w _ HCE.out)).trans HCE.out; replace HB := bs HB hb; clear hb hbox hg; have z30 := bc BK3 0; have z31 := bc BK3 1) | (go_at_call 52; (with_reducible refine (impl_isFar.calls x m true _ A1.out).mono ?_); rintro e w4 ⟨rfl, ⟨nd4, rfl⟩⟩))
    go_ret
    exact ⟨rfl, bl HB⟩
  | false =>
    rw [if_neg (by simp)] at H
    replace H := Aside0.mk H
    go_enter Try.func51, Try.ntmps51
    go_wp2_with (first | ((with_reducible refine gate_dst (N := 2) rfl ?_); refine bx 2 #[.int .i64 x, .int .i64 y] 30 ?_; intro g3 hg w3 hbox hb; have BK3 := Aside0.mk hbox; have hz := (hb.cell (World.block_lt_of_cell? w _ HCE.out)).trans HCE.out; replace HB := bs HB hb; clear hb hbox hg; have z30 := bc BK3 0; have z31 := bc BK3 1) | (go_at_call 52; first | ((with_reducible refine (impl_isFar.calls x m false _ A1.out).mono ?_); rintro e w4 ⟨rfl, ⟨nd4, rfl⟩⟩) | ((with_reducible refine (impl_isFar.calls y m r _ H.out).mono ?_); rintro e w5 ⟨rfl, ⟨nd5, rfl⟩⟩)))
    go_ret
    exact ⟨rfl, bl HB⟩
def dIdx (m : Int) : List (Int × Int) → Int → Option Int
  | [], _ => some (-1)
  | p :: r, x => (dFar m p).bind fun b => if b = true then some x else dIdx m r (x + 1)
set_option maxHeartbeats 8000000 in
set_option maxRecDepth 100000 in
theorem IndexFunc_pts.calls (g bk : Nat) (m : Int) (p0 p1 p2 p3 : Int × Int) (r : Int) (w : World) (hc : w.cell? ⟨g, 0, none⟩ = some (.int .i64 m)) (hbk : w.heap[bk]? = some (.cells #[.int .i64 p0.1, .int .i64 p0.2, .int .i64 p1.1, .int .i64 p1.2, .int .i64 p2.1, .int .i64 p2.2, .int .i64 p3.1, .int .i64 p3.2] 30 (0, 0))) (h : dIdx m [p0, p1, p2, p3] 0 = some r) :
    Calls Try.prog 58 #[.slice (some ⟨bk, 0, none⟩) 4 4, .func (.func 51) #[] #[.pointer (some ⟨g, 0, none⟩)]] w fun e w' => e = .returned (.int .i64 r) ∧ Below w.heap.size w w' := by
  have hu := Try.underlying30
  have HB := Aside0.mk (Below.refl w.heap.size w)
  have HCE := Aside0.mk hc
  have BK := Aside0.mk hbk
  have H' := Aside0.mk h
  clear hc hbk h
  go_enter Try.func58, Try.ntmps58
  go_wp2
  go_loopg [5, 8] 4 (fun gg _ v8 w' => ∃ (x : Int) (L : List (Int × Int)), v8 = .int .i64 x ∧ ((x = 0 ∧ L = [p0, p1, p2, p3]) ∨ (x = 1 ∧ L = [p1, p2, p3]) ∨ (x = 2 ∧ L = [p2, p3]) ∨ (x = 3 ∧ L = [p3]) ∨ (x = 4 ∧ L = [])) ∧ Aside0 (dIdx m L x = some r) ∧ L.length ≤ gg ∧ Aside0 (Below w.heap.size w w'))
  case atStart => exact ⟨0, _, rfl, .inl ⟨rfl, rfl⟩, H', by simp, HB⟩
  case round =>
    clear H'
    obtain ⟨x, L, rfl, hx, HA, hg, HB0⟩ := hrel
    have hc := (HB0.out.cell (World.block_lt_of_cell? w _ HCE.out)).trans HCE.out
    have BKW := Aside0.mk (blk_below BK.out HB0.out)
    have H := HA.out
    clear HA
    rcases hx with ⟨rfl, rfl⟩ | ⟨rfl, rfl⟩ | ⟨rfl, rfl⟩ | ⟨rfl, rfl⟩ | ⟨rfl, rfl⟩
    · have z0 := bc BKW 0
      have z1 := bc BKW 1
      unfold dIdx at H
      replace H := Option.bind_eq_some_iff.mp H
      obtain ⟨b, A5, H⟩ := H
      replace A5 := Aside0.mk A5
      cases b with
      | true =>
        rw [if_pos rfl] at H
        obtain rfl := Option.some.inj H
        clear H
        go_wp2_with (first | (go_at_call 51; (with_reducible refine (impl_areNear_1.calls g m p0.1 p0.2 true _ hc A5.out).mono ?_); rintro e w6 ⟨rfl, hb6⟩))
        go_ret
        exact ⟨rfl, below_step HB0.out hb6⟩
      | false =>
        rw [if_neg (by simp)] at H
        have H' := Aside0.mk H
        clear H
        go_wp2_with (first | (go_at_call 51; (with_reducible refine (impl_areNear_1.calls g m p0.1 p0.2 false _ hc A5.out).mono ?_); rintro e w6 ⟨rfl, hb6⟩))
        go_roundg 3
        case measure => have hq := hg; simp at hq; omega
        case rel => exact ⟨1, _, (by first | rfl | (simp; done)), (by simp), H', (by simp), ⟨below_step HB0.out hb6⟩⟩
    · have z0 := bc BKW 2
      have z1 := bc BKW 3
      unfold dIdx at H
      replace H := Option.bind_eq_some_iff.mp H
      obtain ⟨b, A5, H⟩ := H
      replace A5 := Aside0.mk A5
      cases b with
      | true =>
        rw [if_pos rfl] at H
        obtain rfl := Option.some.inj H
        clear H
        go_wp2_with (first | (go_at_call 51; (with_reducible refine (impl_areNear_1.calls g m p1.1 p1.2 true _ hc A5.out).mono ?_); rintro e w6 ⟨rfl, hb6⟩))
        go_ret
        exact ⟨rfl, below_step HB0.out hb6⟩
      | false =>
        rw [if_neg (by simp)] at H
        have H' := Aside0.mk H
        clear H
        go_wp2_with (first | (go_at_call 51; (with_reducible refine (impl_areNear_1.calls g m p1.1 p1.2 false _ hc A5.out).mono ?_); rintro e w6 ⟨rfl, hb6⟩))
        go_roundg 2
        case measure => have hq := hg; simp at hq; omega
        case rel => exact ⟨2, _, (by first | rfl | (simp; done)), (by simp), H', (by simp), ⟨below_step HB0.out hb6⟩⟩
    · have z0 := bc BKW 4
      have z1 := bc BKW 5
      unfold dIdx at H
      replace H := Option.bind_eq_some_iff.mp H
      obtain ⟨b, A5, H⟩ := H
      replace A5 := Aside0.mk A5
      cases b with
      | true =>
        rw [if_pos rfl] at H
        obtain rfl := Option.some.inj H
        clear H
        go_wp2_with (first | (go_at_call 51; (with_reducible refine (impl_areNear_1.calls g m p2.1 p2.2 true _ hc A5.out).mono ?_); rintro e w6 ⟨rfl, hb6⟩))
        go_ret
        exact ⟨rfl, below_step HB0.out hb6⟩
      | false =>
        rw [if_neg (by simp)] at H
        have H' := Aside0.mk H
        clear H
        go_wp2_with (first | (go_at_call 51; (with_reducible refine (impl_areNear_1.calls g m p2.1 p2.2 false _ hc A5.out).mono ?_); rintro e w6 ⟨rfl, hb6⟩))
        go_roundg 1
        case measure => have hq := hg; simp at hq; omega
        case rel => exact ⟨3, _, (by first | rfl | (simp; done)), (by simp), H', (by simp), ⟨below_step HB0.out hb6⟩⟩
    · have z0 := bc BKW 6
      have z1 := bc BKW 7
      unfold dIdx at H
      replace H := Option.bind_eq_some_iff.mp H
      obtain ⟨b, A5, H⟩ := H
      replace A5 := Aside0.mk A5
      cases b with
      | true =>
        rw [if_pos rfl] at H
        obtain rfl := Option.some.inj H
        clear H
        go_wp2_with (first | (go_at_call 51; (with_reducible refine (impl_areNear_1.calls g m p3.1 p3.2 true _ hc A5.out).mono ?_); rintro e w6 ⟨rfl, hb6⟩))
        go_ret
        exact ⟨rfl, below_step HB0.out hb6⟩
      | false =>
        rw [if_neg (by simp)] at H
        have H' := Aside0.mk H
        clear H
        go_wp2_with (first | (go_at_call 51; (with_reducible refine (impl_areNear_1.calls g m p3.1 p3.2 false _ hc A5.out).mono ?_); rintro e w6 ⟨rfl, hb6⟩))
        go_roundg 0
        case measure => have hq := hg; simp at hq; omega
        case rel => exact ⟨4, _, (by first | rfl | (simp; done)), (by simp), H', (by simp), ⟨below_step HB0.out hb6⟩⟩
    · have H2 := H
      unfold dIdx at H2
      obtain rfl := Option.some.inj H2
      clear H H2
      go_wp2
      go_ret
      exact ⟨rfl, HB0.out⟩
set_option maxHeartbeats 8000000 in
set_option maxRecDepth 100000 in
theorem ContainsFunc_pts.calls (g bk : Nat) (m : Int) (p0 p1 p2 p3 : Int × Int) (r : Int) (w : World) (hc : w.cell? ⟨g, 0, none⟩ = some (.int .i64 m)) (hbk : w.heap[bk]? = some (.cells #[.int .i64 p0.1, .int .i64 p0.2, .int .i64 p1.1, .int .i64 p1.2, .int .i64 p2.1, .int .i64 p2.2, .int .i64 p3.1, .int .i64 p3.2] 30 (0, 0))) (h : dIdx m [p0, p1, p2, p3] 0 = some r) :
    Calls Try.prog 50 #[.slice (some ⟨bk, 0, none⟩) 4 4, .func (.func 51) #[] #[.pointer (some ⟨g, 0, none⟩)]] w fun e w' => e = .returned (.bool (decide (0 ≤ r))) ∧ Below w.heap.size w w' := by
  have HC := Aside0.mk (And.intro hc (And.intro hbk h))
  clear hc hbk h
  go_enter Try.func50, Try.ntmps50
  go_wp2_with (first | (go_at_call 58; (with_reducible refine (IndexFunc_pts.calls g bk m p0 p1 p2 p3 r _ HC.out.1 HC.out.2.1 HC.out.2.2).mono ?_); rintro e w6 ⟨rfl, hb6⟩))
  go_ret
  exact ⟨rfl, hb6⟩
set_option maxHeartbeats 8000000 in
set_option maxRecDepth 100000 in
theorem areNear_pts.calls (bk : Nat) (m : Int) (p0 p1 p2 p3 : Int × Int) (r : Int) (w : World) (hbk : w.heap[bk]? = some (.cells #[.int .i64 p0.1, .int .i64 p0.2, .int .i64 p1.1, .int .i64 p1.2, .int .i64 p2.1, .int .i64 p2.2, .int .i64 p3.1, .int .i64 p3.2] 30 (0, 0))) (h : dIdx m [p0, p1, p2, p3] 0 = some r) :
    Calls Try.prog 36 #[.int .i64 m, .slice (some ⟨bk, 0, none⟩) 4 4] w fun e w' => e = .returned (.bool (!decide (0 ≤ r))) ∧ Below w.heap.size w w' := by
  have hmf : ∀ (fn : Fn) (first cap : Array Value) (w : World), (Instr.makeFunc fn first cap).run Try.prog w = .ok (.func fn first cap) w := fun _ _ _ _ => rfl
  have HC := Aside0.mk (And.intro hbk h)
  clear hbk h
  go_enter Try.func36, Try.ntmps36
  go_wp2_with (first | (go_at_call 50; (with_reducible refine (ContainsFunc_pts.calls w.heap.size bk m p0 p1 p2 p3 r _ (by simp) (blk_alloc HC.out.1 _) HC.out.2).mono ?_); rintro e w6 ⟨rfl, hb6⟩))
  go_ret
  exact ⟨rfl, below_step (below_alloc (Below.refl _ _) _) hb6⟩
def impl_SlopeBefore.f (a0 a1 b0 b1 c0 c1 d0 d1 : Int) : Option Bool := (dIdx 1000 [(a0, a1), (b0, b1), (c0, c1), (d0, d1)] 0).bind fun r => if 0 ≤ r then some false else if a0 < b0 then (if c0 < d0 then (impl_slopes.f a0 a1 b0 b1 c0 c1 d0 d1).bind fun s => some (decide (s < 0)) else some false) else some false
set_option maxHeartbeats 8000000 in
set_option maxRecDepth 100000 in
theorem impl_SlopeBefore.calls (a0 a1 b0 b1 c0 c1 d0 d1 : Int) (r : Bool) (w : World) (h : impl_SlopeBefore.f a0 a1 b0 b1 c0 c1 d0 d1 = some r) :
    Calls Try.prog 16 #[.agg #[.int .i64 a0, .int .i64 a1], .agg #[.int .i64 b0, .int .i64 b1], .agg #[.int .i64 c0, .int .i64 c1], .agg #[.int .i64 d0, .int .i64 d1]] w fun e w' => e = .returned (.bool r) ∧ Below w.heap.size w w' := by
  have hu := Try.underlying30
  have HB := Aside0.mk (Below.refl w.heap.size w)
  have H := h
  clear h
  unfold impl_SlopeBefore.f at H
  replace H := Option.bind_eq_some_iff.mp H
  obtain ⟨t, A1, H⟩ := H
  replace A1 := Aside0.mk A1
  by_cases e1 : 0 ≤ t
  · rw [if_pos e1] at H
    have e1b : decide (0 ≤ t) = true := decide_eq_true e1
    clear e1
    obtain rfl := Option.some.inj H
    clear H
    go_enter Try.func16, Try.ntmps16
    go_wp2_with (first | ((with_reducible refine gate_dst (N := 4) rfl ?_); refine bx 4 #[.int .i64 a0, .int .i64 a1] 30 ?_; intro g4 hg w4 hbox hb; have BK4 := Aside0.mk hbox; replace HB := bs HB hb; clear hb hbox hg; have z40 := bc BK4 0; have z41 := bc BK4 1) | ((with_reducible refine gate_dst (N := 5) rfl ?_); refine bx 5 #[.int .i64 b0, .int .i64 b1] 30 ?_; intro g5 hg w5 hbox hb; have n_ := Aside0.mk (blk_below (g := g4) (o := .cells #[.int .i64 a0, .int .i64 a1] 30 (0, 0)) (bk BK4) hb); clear BK4; have BK4 := n_; clear n_; have BK5 := Aside0.mk hbox; replace HB := bs HB hb; clear hb hbox hg; have z40 := bc BK4 0; have z41 := bc BK4 1; have z50 := bc BK5 0; have z51 := bc BK5 1) | ((with_reducible refine gate_dst (N := 6) rfl ?_); refine bx 6 #[.int .i64 c0, .int .i64 c1] 30 ?_; intro g6 hg w6 hbox hb; have n_ := Aside0.mk (blk_below (g := g4) (o := .cells #[.int .i64 a0, .int .i64 a1] 30 (0, 0)) (bk BK4) hb); clear BK4; have BK4 := n_; clear n_; have n_ := Aside0.mk (blk_below (g := g5) (o := .cells #[.int .i64 b0, .int .i64 b1] 30 (0, 0)) (bk BK5) hb); clear BK5; have BK5 := n_; clear n_; have BK6 := Aside0.mk hbox; replace HB := bs HB hb; clear hb hbox hg; have z40 := bc BK4 0; have z41 := bc BK4 1; have z50 := bc BK5 0; have z51 := bc BK5 1; have z60 := bc BK6 0; have z61 := bc BK6 1) | ((with_reducible refine gate_dst (N := 7) rfl ?_); refine bx 7 #[.int .i64 d0, .int .i64 d1] 30 ?_; intro g7 hg w7 hbox hb; have n_ := Aside0.mk (blk_below (g := g4) (o := .cells #[.int .i64 a0, .int .i64 a1] 30 (0, 0)) (bk BK4) hb); clear BK4; have BK4 := n_; clear n_; have n_ := Aside0.mk (blk_below (g := g5) (o := .cells #[.int .i64 b0, .int .i64 b1] 30 (0, 0)) (bk BK5) hb); clear BK5; have BK5 := n_; clear n_; have n_ := Aside0.mk (blk_below (g := g6) (o := .cells #[.int .i64 c0, .int .i64 c1] 30 (0, 0)) (bk BK6) hb); clear BK6; have BK6 := n_; clear n_; have BK7 := Aside0.mk hbox; replace HB := bs HB hb; clear hb hbox hg; have z40 := bc BK4 0; have z41 := bc BK4 1; have z50 := bc BK5 0; have z51 := bc BK5 1; have z60 := bc BK6 0; have z61 := bc BK6 1; have z70 := bc BK7 0; have z71 := bc BK7 1) | (go_at_call 36; (with_reducible refine (areNear_pts.calls w7.heap.size 1000 (a0, a1) (b0, b1) (c0, c1) (d0, d1) t _ (heap_alloc_new _ _) A1.out).mono ?_); rintro e w9 ⟨rfl, hb⟩; have n_ := Aside0.mk (blk_below (g := g4) (o := .cells #[.int .i64 a0, .int .i64 a1] 30 (0, 0)) (bk BK4) hb); clear BK4; have BK4 := n_; clear n_; have n_ := Aside0.mk (blk_below (g := g5) (o := .cells #[.int .i64 b0, .int .i64 b1] 30 (0, 0)) (bk BK5) hb); clear BK5; have BK5 := n_; clear n_; have n_ := Aside0.mk (blk_below (g := g6) (o := .cells #[.int .i64 c0, .int .i64 c1] 30 (0, 0)) (bk BK6) hb); clear BK6; have BK6 := n_; clear n_; have n_ := Aside0.mk (blk_below (g := g7) (o := .cells #[.int .i64 d0, .int .i64 d1] 30 (0, 0)) (bk BK7) hb); clear BK7; have BK7 := n_; clear n_; replace HB := bs HB hb; clear hb; have z40 := bc BK4 0; have z41 := bc BK4 1; have z50 := bc BK5 0; have z51 := bc BK5 1; have z60 := bc BK6 0; have z61 := bc BK6 1; have z70 := bc BK7 0; have z71 := bc BK7 1))
    go_ret
    exact ⟨rfl, bl HB⟩
  · rw [if_neg e1] at H
    have e1b : decide (0 ≤ t) = false := decide_eq_false e1
    clear e1
    by_cases e2 : a0 < b0
    · rw [if_pos e2] at H
      have e2b : decide (a0 < b0) = true := decide_eq_true e2
      clear e2
      by_cases e3 : c0 < d0
      · rw [if_pos e3] at H
        have e3b : decide (c0 < d0) = true := decide_eq_true e3
        clear e3
        replace H := Option.bind_eq_some_iff.mp H
        obtain ⟨s, A2, H⟩ := H
        replace A2 := Aside0.mk A2
        obtain rfl := Option.some.inj H
        clear H
        go_enter Try.func16, Try.ntmps16
        go_wp2_with (first | ((with_reducible refine gate_dst (N := 4) rfl ?_); refine bx 4 #[.int .i64 a0, .int .i64 a1] 30 ?_; intro g4 hg w4 hbox hb; have BK4 := Aside0.mk hbox; replace HB := bs HB hb; clear hb hbox hg; have z40 := bc BK4 0; have z41 := bc BK4 1) | ((with_reducible refine gate_dst (N := 5) rfl ?_); refine bx 5 #[.int .i64 b0, .int .i64 b1] 30 ?_; intro g5 hg w5 hbox hb; have n_ := Aside0.mk (blk_below (g := g4) (o := .cells #[.int .i64 a0, .int .i64 a1] 30 (0, 0)) (bk BK4) hb); clear BK4; have BK4 := n_; clear n_; have BK5 := Aside0.mk hbox; replace HB := bs HB hb; clear hb hbox hg; have z40 := bc BK4 0; have z41 := bc BK4 1; have z50 := bc BK5 0; have z51 := bc BK5 1) | ((with_reducible refine gate_dst (N := 6) rfl ?_); refine bx 6 #[.int .i64 c0, .int .i64 c1] 30 ?_; intro g6 hg w6 hbox hb; have n_ := Aside0.mk (blk_below (g := g4) (o := .cells #[.int .i64 a0, .int .i64 a1] 30 (0, 0)) (bk BK4) hb); clear BK4; have BK4 := n_; clear n_; have n_ := Aside0.mk (blk_below (g := g5) (o := .cells #[.int .i64 b0, .int .i64 b1] 30 (0, 0)) (bk BK5) hb); clear BK5; have BK5 := n_; clear n_; have BK6 := Aside0.mk hbox; replace HB := bs HB hb; clear hb hbox hg; have z40 := bc BK4 0; have z41 := bc BK4 1; have z50 := bc BK5 0; have z51 := bc BK5 1; have z60 := bc BK6 0; have z61 := bc BK6 1) | ((with_reducible refine gate_dst (N := 7) rfl ?_); refine bx 7 #[.int .i64 d0, .int .i64 d1] 30 ?_; intro g7 hg w7 hbox hb; have n_ := Aside0.mk (blk_below (g := g4) (o := .cells #[.int .i64 a0, .int .i64 a1] 30 (0, 0)) (bk BK4) hb); clear BK4; have BK4 := n_; clear n_; have n_ := Aside0.mk (blk_below (g := g5) (o := .cells #[.int .i64 b0, .int .i64 b1] 30 (0, 0)) (bk BK5) hb); clear BK5; have BK5 := n_; clear n_; have n_ := Aside0.mk (blk_below (g := g6) (o := .cells #[.int .i64 c0, .int .i64 c1] 30 (0, 0)) (bk BK6) hb); clear BK6; have BK6 := n_; clear n_; have BK7 := Aside0.mk hbox; replace HB := bs HB hb; clear hb hbox hg; have z40 := bc BK4 0; have z41 := bc BK4 1; have z50 := bc BK5 0; have z51 := bc BK5 1; have z60 := bc BK6 0; have z61 := bc BK6 1; have z70 := bc BK7 0; have z71 := bc BK7 1) | (go_at_call 36; (with_reducible refine (areNear_pts.calls w7.heap.size 1000 (a0, a1) (b0, b1) (c0, c1) (d0, d1) t _ (heap_alloc_new _ _) A1.out).mono ?_); rintro e w9 ⟨rfl, hb⟩; have n_ := Aside0.mk (blk_below (g := g4) (o := .cells #[.int .i64 a0, .int .i64 a1] 30 (0, 0)) (bk BK4) hb); clear BK4; have BK4 := n_; clear n_; have n_ := Aside0.mk (blk_below (g := g5) (o := .cells #[.int .i64 b0, .int .i64 b1] 30 (0, 0)) (bk BK5) hb); clear BK5; have BK5 := n_; clear n_; have n_ := Aside0.mk (blk_below (g := g6) (o := .cells #[.int .i64 c0, .int .i64 c1] 30 (0, 0)) (bk BK6) hb); clear BK6; have BK6 := n_; clear n_; have n_ := Aside0.mk (blk_below (g := g7) (o := .cells #[.int .i64 d0, .int .i64 d1] 30 (0, 0)) (bk BK7) hb); clear BK7; have BK7 := n_; clear n_; replace HB := bs HB hb; clear hb; have z40 := bc BK4 0; have z41 := bc BK4 1; have z50 := bc BK5 0; have z51 := bc BK5 1; have z60 := bc BK6 0; have z61 := bc BK6 1; have z70 := bc BK7 0; have z71 := bc BK7 1) | (go_at_call 37; (with_reducible refine (impl_slopes.calls a0 a1 b0 b1 c0 c1 d0 d1 s _ A2.out).mono ?_); rintro e w10 ⟨rfl, hb⟩; replace HB := bs HB hb; clear hb))
        go_ret
        exact ⟨rfl, bl HB⟩
      · rw [if_neg e3] at H
        have e3b : decide (c0 < d0) = false := decide_eq_false e3
        clear e3
        obtain rfl := Option.some.inj H
        clear H
        go_enter Try.func16, Try.ntmps16
        go_wp2_with (first | ((with_reducible refine gate_dst (N := 4) rfl ?_); refine bx 4 #[.int .i64 a0, .int .i64 a1] 30 ?_; intro g4 hg w4 hbox hb; have BK4 := Aside0.mk hbox; replace HB := bs HB hb; clear hb hbox hg; have z40 := bc BK4 0; have z41 := bc BK4 1) | ((with_reducible refine gate_dst (N := 5) rfl ?_); refine bx 5 #[.int .i64 b0, .int .i64 b1] 30 ?_; intro g5 hg w5 hbox hb; have n_ := Aside0.mk (blk_below (g := g4) (o := .cells #[.int .i64 a0, .int .i64 a1] 30 (0, 0)) (bk BK4) hb); clear BK4; have BK4 := n_; clear n_; have BK5 := Aside0.mk hbox; replace HB := bs HB hb; clear hb hbox hg; have z40 := bc BK4 0; have z41 := bc BK4 1; have z50 := bc BK5 0; have z51 := bc BK5 1) | ((with_reducible refine gate_dst (N := 6) rfl ?_); refine bx 6 #[.int .i64 c0, .int .i64 c1] 30 ?_; intro g6 hg w6 hbox hb; have n_ := Aside0.mk (blk_below (g := g4) (o := .cells #[.int .i64 a0, .int .i64 a1] 30 (0, 0)) (bk BK4) hb); clear BK4; have BK4 := n_; clear n_; have n_ := Aside0.mk (blk_below (g := g5) (o := .cells #[.int .i64 b0, .int .i64 b1] 30 (0, 0)) (bk BK5) hb); clear BK5; have BK5 := n_; clear n_; have BK6 := Aside0.mk hbox; replace HB := bs HB hb; clear hb hbox hg; have z40 := bc BK4 0; have z41 := bc BK4 1; have z50 := bc BK5 0; have z51 := bc BK5 1; have z60 := bc BK6 0; have z61 := bc BK6 1) | ((with_reducible refine gate_dst (N := 7) rfl ?_); refine bx 7 #[.int .i64 d0, .int .i64 d1] 30 ?_; intro g7 hg w7 hbox hb; have n_ := Aside0.mk (blk_below (g := g4) (o := .cells #[.int .i64 a0, .int .i64 a1] 30 (0, 0)) (bk BK4) hb); clear BK4; have BK4 := n_; clear n_; have n_ := Aside0.mk (blk_below (g := g5) (o := .cells #[.int .i64 b0, .int .i64 b1] 30 (0, 0)) (bk BK5) hb); clear BK5; have BK5 := n_; clear n_; have n_ := Aside0.mk (blk_below (g := g6) (o := .cells #[.int .i64 c0, .int .i64 c1] 30 (0, 0)) (bk BK6) hb); clear BK6; have BK6 := n_; clear n_; have BK7 := Aside0.mk hbox; replace HB := bs HB hb; clear hb hbox hg; have z40 := bc BK4 0; have z41 := bc BK4 1; have z50 := bc BK5 0; have z51 := bc BK5 1; have z60 := bc BK6 0; have z61 := bc BK6 1; have z70 := bc BK7 0; have z71 := bc BK7 1) | (go_at_call 36; (with_reducible refine (areNear_pts.calls w7.heap.size 1000 (a0, a1) (b0, b1) (c0, c1) (d0, d1) t _ (heap_alloc_new _ _) A1.out).mono ?_); rintro e w9 ⟨rfl, hb⟩; have n_ := Aside0.mk (blk_below (g := g4) (o := .cells #[.int .i64 a0, .int .i64 a1] 30 (0, 0)) (bk BK4) hb); clear BK4; have BK4 := n_; clear n_; have n_ := Aside0.mk (blk_below (g := g5) (o := .cells #[.int .i64 b0, .int .i64 b1] 30 (0, 0)) (bk BK5) hb); clear BK5; have BK5 := n_; clear n_; have n_ := Aside0.mk (blk_below (g := g6) (o := .cells #[.int .i64 c0, .int .i64 c1] 30 (0, 0)) (bk BK6) hb); clear BK6; have BK6 := n_; clear n_; have n_ := Aside0.mk (blk_below (g := g7) (o := .cells #[.int .i64 d0, .int .i64 d1] 30 (0, 0)) (bk BK7) hb); clear BK7; have BK7 := n_; clear n_; replace HB := bs HB hb; clear hb; have z40 := bc BK4 0; have z41 := bc BK4 1; have z50 := bc BK5 0; have z51 := bc BK5 1; have z60 := bc BK6 0; have z61 := bc BK6 1; have z70 := bc BK7 0; have z71 := bc BK7 1))
        go_ret
        exact ⟨rfl, bl HB⟩
    · rw [if_neg e2] at H
      have e2b : decide (a0 < b0) = false := decide_eq_false e2
      clear e2
      obtain rfl := Option.some.inj H
      clear H
      go_enter Try.func16, Try.ntmps16
      go_wp2_with (first | ((with_reducible refine gate_dst (N := 4) rfl ?_); refine bx 4 #[.int .i64 a0, .int .i64 a1] 30 ?_; intro g4 hg w4 hbox hb; have BK4 := Aside0.mk hbox; replace HB := bs HB hb; clear hb hbox hg; have z40 := bc BK4 0; have z41 := bc BK4 1) | ((with_reducible refine gate_dst (N := 5) rfl ?_); refine bx 5 #[.int .i64 b0, .int .i64 b1] 30 ?_; intro g5 hg w5 hbox hb; have n_ := Aside0.mk (blk_below (g := g4) (o := .cells #[.int .i64 a0, .int .i64 a1] 30 (0, 0)) (bk BK4) hb); clear BK4; have BK4 := n_; clear n_; have BK5 := Aside0.mk hbox; replace HB := bs HB hb; clear hb hbox hg; have z40 := bc BK4 0; have z41 := bc BK4 1; have z50 := bc BK5 0; have z51 := bc BK5 1) | ((with_reducible refine gate_dst (N := 6) rfl ?_); refine bx 6 #[.int .i64 c0, .int .i64 c1] 30 ?_; intro g6 hg w6 hbox hb; have n_ := Aside0.mk (blk_below (g := g4) (o := .cells #[.int .i64 a0, .int .i64 a1] 30 (0, 0)) (bk BK4) hb); clear BK4; have BK4 := n_; clear n_; have n_ := Aside0.mk (blk_below (g := g5) (o := .cells #[.int .i64 b0, .int .i64 b1] 30 (0, 0)) (bk BK5) hb); clear BK5; have BK5 := n_; clear n_; have BK6 := Aside0.mk hbox; replace HB := bs HB hb; clear hb hbox hg; have z40 := bc BK4 0; have z41 := bc BK4 1; have z50 := bc BK5 0; have z51 := bc BK5 1; have z60 := bc BK6 0; have z61 := bc BK6 1) | ((with_reducible refine gate_dst (N := 7) rfl ?_); refine bx 7 #[.int .i64 d0, .int .i64 d1] 30 ?_; intro g7 hg w7 hbox hb; have n_ := Aside0.mk (blk_below (g := g4) (o := .cells #[.int .i64 a0, .int .i64 a1] 30 (0, 0)) (bk BK4) hb); clear BK4; have BK4 := n_; clear n_; have n_ := Aside0.mk (blk_below (g := g5) (o := .cells #[.int .i64 b0, .int .i64 b1] 30 (0, 0)) (bk BK5) hb); clear BK5; have BK5 := n_; clear n_; have n_ := Aside0.mk (blk_below (g := g6) (o := .cells #[.int .i64 c0, .int .i64 c1] 30 (0, 0)) (bk BK6) hb); clear BK6; have BK6 := n_; clear n_; have BK7 := Aside0.mk hbox; replace HB := bs HB hb; clear hb hbox hg; have z40 := bc BK4 0; have z41 := bc BK4 1; have z50 := bc BK5 0; have z51 := bc BK5 1; have z60 := bc BK6 0; have z61 := bc BK6 1; have z70 := bc BK7 0; have z71 := bc BK7 1) | (go_at_call 36; (with_reducible refine (areNear_pts.calls w7.heap.size 1000 (a0, a1) (b0, b1) (c0, c1) (d0, d1) t _ (heap_alloc_new _ _) A1.out).mono ?_); rintro e w9 ⟨rfl, hb⟩; have n_ := Aside0.mk (blk_below (g := g4) (o := .cells #[.int .i64 a0, .int .i64 a1] 30 (0, 0)) (bk BK4) hb); clear BK4; have BK4 := n_; clear n_; have n_ := Aside0.mk (blk_below (g := g5) (o := .cells #[.int .i64 b0, .int .i64 b1] 30 (0, 0)) (bk BK5) hb); clear BK5; have BK5 := n_; clear n_; have n_ := Aside0.mk (blk_below (g := g6) (o := .cells #[.int .i64 c0, .int .i64 c1] 30 (0, 0)) (bk BK6) hb); clear BK6; have BK6 := n_; clear n_; have n_ := Aside0.mk (blk_below (g := g7) (o := .cells #[.int .i64 d0, .int .i64 d1] 30 (0, 0)) (bk BK7) hb); clear BK7; have BK7 := n_; clear n_; replace HB := bs HB hb; clear hb; have z40 := bc BK4 0; have z41 := bc BK4 1; have z50 := bc BK5 0; have z51 := bc BK5 1; have z60 := bc BK6 0; have z61 := bc BK6 1; have z70 := bc BK7 0; have z71 := bc BK7 1))
      go_ret
      exact ⟨rfl, bl HB⟩

end Go.Proofs.Ytfgnijcclnleaaa.P
