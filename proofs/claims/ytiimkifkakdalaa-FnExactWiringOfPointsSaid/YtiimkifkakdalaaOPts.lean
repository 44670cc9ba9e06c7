/- impl.areNear, its closure, slices.ContainsFunc and slices.IndexFunc over any list of points; impl.TurnOf: what a call of them computes. Conditions: none. -/
import Derived.Test.YtiimkifkakdalaaP53
namespace Go.Proofs.Ytiimkifkakdalaa.P
open Go.RowKit Go.Proofs.YtiimkifkakdalaaW.PrintWords Go.Proofs.YtiimkifkakdalaaW.PrintLast Go.Proofs.YtiimkifkakdalaaW.PrintMore
set_option linter.unusedVariables false
set_option linter.unusedSimpArgs false

/-- Whether a point is far. -/
def dFar (m : Int) (p : Int × Int) : Option Bool := (impl_isFar.f p.1 m).bind fun b => if b = true then some true else impl_isFar.f p.2 m
set_option maxHeartbeats 8000000 in
set_option maxRecDepth 100000 in
theorem impl_areNear_1.calls (g : Nat) (m x y : Int) (r : Bool) (w : World) (hc : w.cell? ⟨g, 0, none⟩ = some (.int .i64 m)) (h : dFar m (x, y) = some r) :
    Calls Try.prog 123 #[.agg #[.int .i64 x, .int .i64 y], .pointer (some ⟨g, 0, none⟩)] w fun e w' => e = .returned (.bool r) ∧ Below w.heap.size w w' := by
  have hu := Try.underlying64
  have HB := Aside0.mk (Below.refl w.heap.size w)
  unfold dFar at h
  replace h := Option.bind_eq_some_iff.mp h
  obtain ⟨b, A1, H⟩ := h
  replace A1 := Aside0.mk A1
  have HCE := Aside0.mk hc
  clear hc
  cases b with
  | true =>
    rw [if_pos rfl] at H
    obtain rfl := Option.some.inj H
    clear H
    go_enter Try.func123, Try.ntmps123
    go_wp2_with (first | ((with_reducible refine gate_dst (N := 2) rfl ?_); refine bx 2 #[.int .i64 x, .int .i64 y] 64 ?_; intro g3 hg w3 hbox hb; have BK3 := Aside0.mk hbox; have hz := (hb.cell (World.block_lt_of_cell? w _ HCE.out)).trans HCE.out; replace HB := bs HB hb; clear hb hbox hg; have z30 := bc BK3 0; have z31 := bc BK3 1) | (go_at_call 124; (with_reducible refine (impl_isFar.calls x m true _ A1.out).mono ?_); rintro e w4 ⟨rfl, ⟨nd4, rfl⟩⟩))
    go_ret
    exact ⟨rfl, bl HB⟩
  | false =>
    rw [if_neg (by simp)] at H
    replace H := Aside0.mk H
    go_enter Try.func123, Try.ntmps123
    go_wp2_with (first | ((with_reducible refine gate_dst (N := 2) rfl ?_); refine bx 2 #[.int .i64 x, .int .i64 y] 64 ?_; intro g3 hg w3 hbox hb; have BK3 := Aside0.mk hbox; have hz := (hb.cell (World.block_lt_of_cell? w _ HCE.out)).trans HCE.out; replace HB := bs HB hb; clear hb hbox hg; have z30 := bc BK3 0; have z31 := bc BK3 1) | (go_at_call 124; first | ((with_reducible refine (impl_isFar.calls x m false _ A1.out).mono ?_); rintro e w4 ⟨rfl, ⟨nd4, rfl⟩⟩) | ((with_reducible refine (impl_isFar.calls y m r _ H.out).mono ?_); rintro e w5 ⟨rfl, ⟨nd5, rfl⟩⟩)))
    go_ret
    exact ⟨rfl, bl HB⟩
def dIdx (m : Int) : List S64 → Int → Option Int
  | [], _ => some (-1)
  | p :: r, x => (dFar m (p.f0, p.f1)).bind fun b => if b = true then some x else dIdx m r (x + 1)
set_option maxHeartbeats 8000000 in
set_option maxRecDepth 100000 in
theorem IndexFunc_pts.calls (g : Nat) (m : Int) (A : Option Addr) (c n : Nat) (l : List S64) (r : Int) (w : World) (hn : l.length = n) (hc : w.cell? ⟨g, 0, none⟩ = some (.int .i64 m)) (hr : Kd.C k64 w A n l) (h : dIdx m l 0 = some r) :
    Calls Try.prog 151 #[.slice A n c, .func (.func 123) #[] #[.pointer (some ⟨g, 0, none⟩)]] w fun e w' => e = .returned (.int .i64 r) ∧ Below w.heap.size w w' := by
  have hu := Try.underlying64
  have HB := Aside0.mk (Below.refl w.heap.size w)
  have HCE := Aside0.mk hc
  have HR := Aside0.mk hr
  have HN := Aside0.mk (And.intro hn hr.2.1)
  have H' := Aside0.mk h
  clear hc hr h hn
  go_enter Try.func151, Try.ntmps151
  go_wp2
  go_loopg [5, 8] n (fun gg _ v8 w' => ∃ (x : Int), v8 = .int .i64 x ∧ Aside0 (0 ≤ x ∧ x + (gg : Int) = (n : Int) ∧ dIdx m (l.drop x.toNat) x = some r) ∧ Aside0 (Below w.heap.size w w'))
  case atStart => exact ⟨0, rfl, ⟨Int.le_refl _, by omega, H'.out⟩, HB⟩
  case round =>
    clear H'
    obtain ⟨x, rfl, HX, HB0⟩ := hrel
    have hc := (HB0.out.cell (World.block_lt_of_cell? w _ HCE.out)).trans HCE.out
    obtain ⟨hx0, hxg, H⟩ := HX.out
    by_cases hlt : x < (n : Int)
    · have hltb : decide (x < (n : Int)) = true := decide_eq_true hlt
      have hxl : x.toNat < l.length := by rw [HN.out.1]; omega
      rw [List.drop_eq_getElem_cons hxl, dIdx] at H
      replace H := Option.bind_eq_some_iff.mp H
      obtain ⟨b, A5, H⟩ := H
      obtain ⟨ad, e0, z0, z1⟩ := at_T64 HR.out x hx0 hlt
      have er : rd_T64 l x = l[x.toNat] := by unfold rd_T64; rw [List.getD_eq_getElem?_getD, List.getElem?_eq_getElem hxl]; rfl
      rw [← er] at A5
      cases e0
      replace z0 := (HB0.out.cell (World.block_lt_of_cell? w _ z0)).trans z0
      replace z1 := (HB0.out.cell (World.block_lt_of_cell? w _ z1)).trans z1
      replace A5 := Aside0.mk A5
      obtain ⟨gk', hgk⟩ : ∃ q, gk = q + 1 := ⟨gk - 1, by omega⟩
      have hnv : wrap64 (x + 1) = x + 1 := by have := HN.out.2; unfold wrap64; omega
      have hnw : IntKind.i64.wrap (x + 1) = x + 1 := (i64_w _).trans hnv
      have HGK := Aside0.mk hgk
      have p1 := eq_true hx0
      have q1 := eq_true hlt
      have hx1 : (x + 1).toNat = x.toNat + 1 := by omega
      have HG1 := Aside0.mk (And.intro hxg hx1)
      clear hxg hx0 hlt er hxl hgk HX
      cases b with
      | true =>
        rw [if_pos rfl] at H
        obtain rfl := Option.some.inj H
        clear H
        go_wp2_with (first | (go_at_call 123; (with_reducible refine (impl_areNear_1.calls g m (rd_T64 l x).f0 (rd_T64 l x).f1 true _ hc A5.out).mono ?_); rintro e w6 ⟨rfl, hb6⟩))
        go_ret
        exact ⟨rfl, below_step HB0.out hb6⟩
      | false =>
        rw [if_neg (by simp)] at H
        have H' := Aside0.mk H
        clear H
        go_wp2_with (first | (go_at_call 123; (with_reducible refine (impl_areNear_1.calls g m (rd_T64 l x).f0 (rd_T64 l x).f1 false _ hc A5.out).mono ?_); rintro e w6 ⟨rfl, hb6⟩))
        go_roundg gk'
        case measure => have := HGK.out; omega
        case rel => exact ⟨x + 1, (by first | rfl | (simp only [hnw]; done) | (simp [hnw]; done)), ⟨by have := of_eq_true p1; omega, by have h1 := HG1.out.1; have h2 := HGK.out; omega, by rw [HG1.out.2]; exact H'.out⟩, ⟨below_step HB0.out hb6⟩⟩
    · have hltb : decide (x < (n : Int)) = false := decide_eq_false hlt
      rw [List.drop_eq_nil_of_le (by rw [HN.out.1]; omega), dIdx] at H
      obtain rfl := Option.some.inj H
      clear H HX hxg hx0 hlt
      go_wp2
      go_ret
      exact ⟨rfl, HB0.out⟩
set_option maxHeartbeats 8000000 in
set_option maxRecDepth 100000 in
theorem ContainsFunc_pts.calls (g : Nat) (m : Int) (A : Option Addr) (c n : Nat) (l : List S64) (r : Int) (w : World) (hn : l.length = n) (hc : w.cell? ⟨g, 0, none⟩ = some (.int .i64 m)) (hr : Kd.C k64 w A n l) (h : dIdx m l 0 = some r) :
    Calls Try.prog 122 #[.slice A n c, .func (.func 123) #[] #[.pointer (some ⟨g, 0, none⟩)]] w fun e w' => e = .returned (.bool (decide (0 ≤ r))) ∧ Below w.heap.size w w' := by
  have HC := Aside0.mk (And.intro hc (And.intro hr (And.intro h hn)))
  clear hc hr h hn
  go_enter Try.func122, Try.ntmps122
  go_wp2_with (first | (go_at_call 151; (with_reducible refine (IndexFunc_pts.calls g m A c n l r _ HC.out.2.2.2 HC.out.1 HC.out.2.1 HC.out.2.2.1).mono ?_); rintro e w6 ⟨rfl, hb6⟩))
  go_ret
  exact ⟨rfl, hb6⟩
set_option maxHeartbeats 8000000 in
set_option maxRecDepth 100000 in
theorem areNear_pts.calls (m : Int) (A : Option Addr) (c n : Nat) (l : List S64) (r : Int) (w : World) (hn : l.length = n) (hr : Kd.C k64 w A n l) (h : dIdx m l 0 = some r) :
    Calls Try.prog 96 #[.int .i64 m, .slice A n c] w fun e w' => e = .returned (.bool (!decide (0 ≤ r))) ∧ Below w.heap.size w w' := by
  have hmf : ∀ (fn : Fn) (first cap : Array Value) (w : World), (Instr.makeFunc fn first cap).run Try.prog w = .ok (.func fn first cap) w := fun _ _ _ _ => rfl
  have HC := Aside0.mk (And.intro hr (And.intro h hn))
  clear hr h hn
  go_enter Try.func96, Try.ntmps96
  go_wp2_with (first | (go_at_call 122; (with_reducible refine (ContainsFunc_pts.calls w.heap.size m A c n l r _ HC.out.2.2 (by simp) (Kd.C_alloc HC.out.1 _) HC.out.2.1).mono ?_); rintro e w6 ⟨rfl, hb6⟩))
  go_ret
  exact ⟨rfl, below_step (below_alloc (Below.refl _ _) _) hb6⟩
def impl_areNear.f (a0 : Int) (l1 : List S64) : Option Bool := (dIdx a0 l1 0).bind fun r => some (!decide (0 ≤ r))
theorem impl_areNear.calls (a0 : Int) (A1 : Option Addr) (c1 : Nat) (l1 : List S64) (r : Bool) (w : World) (hr1 : Kd.C k64 w A1 l1.length l1) (hc1 : l1.length ≤ c1) (h : impl_areNear.f a0 l1 = some r) :
    Calls Try.prog 96 #[.int .i64 a0, .slice A1 l1.length c1] w fun e w' => e = .returned (.bool r) ∧ Below w.heap.size w w' := by
  unfold impl_areNear.f at h
  replace h := Option.bind_eq_some_iff.mp h
  obtain ⟨t, h1, h2⟩ := h
  obtain rfl := Option.some.inj h2
  exact areNear_pts.calls a0 A1 c1 _ l1 t w rfl hr1 h1
/-- A literal of three points is read as their list. -/
theorem pts3 {w : World} {g : Nat} (a0 a1 b0 b1 c0 c1 : Int) (h : w.heap[g]? = some (.cells #[.int .i64 a0, .int .i64 a1, .int .i64 b0, .int .i64 b1, .int .i64 c0, .int .i64 c1] 64 (0, 0))) : Kd.C k64 w (some ⟨g, 0, none⟩) 3 [⟨a0, a1⟩, ⟨b0, b1⟩, ⟨c0, c1⟩] := by
  refine ⟨rfl, by decide, fun _ => ⟨⟨g, 0, none⟩, rfl, fun j p hp => ?_⟩⟩
  have hz : ∀ i u, (#[.int .i64 a0, .int .i64 a1, .int .i64 b0, .int .i64 b1, .int .i64 c0, .int .i64 c1] : Array Value)[i]? = some u → w.cell? ⟨g, 0 + i, none⟩ = some u := by
    intro i u hu
    simp only [World.cell?, h, Nat.zero_add, Option.isSome_none, Bool.false_eq_true, if_false]
    exact hu
  have hj : j < 3 := by
    have := (List.getElem?_eq_some_iff.mp hp).1
    exact this
  have h3 : j = 0 ∨ j = 1 ∨ j = 2 := by omega
  rcases h3 with rfl | rfl | rfl
  · simp only [List.getElem?_cons_zero, List.getElem?_cons_succ, Option.some.injEq] at hp
    subst hp
    refine ⟨_, rfl, k64_mk w _, fun i u hu => ?_⟩
    have hi : i < 2 := (List.getElem?_eq_some_iff.mp hu).1
    have h2 : i = 0 ∨ i = 1 := by omega
    rcases h2 with rfl | rfl
    · exact hz 0 u (by simpa using hu)
    · exact hz 1 u (by simpa using hu)
  · simp only [List.getElem?_cons_zero, List.getElem?_cons_succ, Option.some.injEq] at hp
    subst hp
    refine ⟨_, rfl, k64_mk w _, fun i u hu => ?_⟩
    have hi : i < 2 := (List.getElem?_eq_some_iff.mp hu).1
    have h2 : i = 0 ∨ i = 1 := by omega
    rcases h2 with rfl | rfl
    · exact hz 2 u (by simpa using hu)
    · exact hz 3 u (by simpa using hu)
  · simp only [List.getElem?_cons_zero, List.getElem?_cons_succ, Option.some.injEq] at hp
    subst hp
    refine ⟨_, rfl, k64_mk w _, fun i u hu => ?_⟩
    have hi : i < 2 := (List.getElem?_eq_some_iff.mp hu).1
    have h2 : i = 0 ∨ i = 1 := by omega
    rcases h2 with rfl | rfl
    · exact hz 4 u (by simpa using hu)
    · exact hz 5 u (by simpa using hu)
def impl_TurnOf.f (a0 a1 b0 b1 c0 c1 : Int) : Option Int := (dIdx 1000 [⟨a0, a1⟩, ⟨b0, b1⟩, ⟨c0, c1⟩] 0).bind fun r => if 0 ≤ r then some 0 else (impl_area.f a0 a1 b0 b1 c0 c1).bind fun s => impl_signOf.f s
set_option maxHeartbeats 8000000 in
set_option maxRecDepth 100000 in
theorem impl_TurnOf.calls (a0 a1 b0 b1 c0 c1 : Int) (r : Int) (w : World) (h : impl_TurnOf.f a0 a1 b0 b1 c0 c1 = some r) :
    Calls Try.prog 98 #[.agg #[.int .i64 a0, .int .i64 a1], .agg #[.int .i64 b0, .int .i64 b1], .agg #[.int .i64 c0, .int .i64 c1]] w fun e w' => e = .returned (.int .i64 r) ∧ Below w.heap.size w w' := by
  have hu := Try.underlying64
  have HB := Aside0.mk (Below.refl w.heap.size w)
  have H := h
  clear h
  unfold impl_TurnOf.f at H
  replace H := Option.bind_eq_some_iff.mp H
  obtain ⟨t, A1, H⟩ := H
  replace A1 := Aside0.mk A1
  by_cases e1 : 0 ≤ t
  · rw [if_pos e1] at H
    have e1b : decide (0 ≤ t) = true := decide_eq_true e1
    clear e1
    obtain rfl := Option.some.inj H
    clear H
    go_enter Try.func98, Try.ntmps98
    go_wp2_with (first | ((with_reducible refine gate_dst (N := 3) rfl ?_); refine bx 3 #[.int .i64 a0, .int .i64 a1] 64 ?_; intro g4 hg w4 hbox hb; have BK4 := Aside0.mk hbox; replace HB := bs HB hb; clear hb hbox hg; have z40 := bc BK4 0; have z41 := bc BK4 1) | ((with_reducible refine gate_dst (N := 4) rfl ?_); refine bx 4 #[.int .i64 b0, .int .i64 b1] 64 ?_; intro g5 hg w5 hbox hb; have n_ := Aside0.mk (blk_below (g := g4) (o := .cells #[.int .i64 a0, .int .i64 a1] 64 (0, 0)) (bk BK4) hb); clear BK4; have BK4 := n_; clear n_; have BK5 := Aside0.mk hbox; replace HB := bs HB hb; clear hb hbox hg; have z40 := bc BK4 0; have z41 := bc BK4 1; have z50 := bc BK5 0; have z51 := bc BK5 1) | ((with_reducible refine gate_dst (N := 5) rfl ?_); refine bx 5 #[.int .i64 c0, .int .i64 c1] 64 ?_; intro g6 hg w6 hbox hb; have n_ := Aside0.mk (blk_below (g := g4) (o := .cells #[.int .i64 a0, .int .i64 a1] 64 (0, 0)) (bk BK4) hb); clear BK4; have BK4 := n_; clear n_; have n_ := Aside0.mk (blk_below (g := g5) (o := .cells #[.int .i64 b0, .int .i64 b1] 64 (0, 0)) (bk BK5) hb); clear BK5; have BK5 := n_; clear n_; have BK6 := Aside0.mk hbox; replace HB := bs HB hb; clear hb hbox hg; have z40 := bc BK4 0; have z41 := bc BK4 1; have z50 := bc BK5 0; have z51 := bc BK5 1; have z60 := bc BK6 0; have z61 := bc BK6 1) | (go_at_call 96; (with_reducible refine (areNear_pts.calls 1000 (some ⟨w6.heap.size, 0, none⟩) 3 3 [⟨a0, a1⟩, ⟨b0, b1⟩, ⟨c0, c1⟩] t _ rfl (pts3 a0 a1 b0 b1 c0 c1 (heap_alloc_new _ _)) A1.out).mono ?_); rintro e w9 ⟨rfl, hb⟩; have n_ := Aside0.mk (blk_below (g := g4) (o := .cells #[.int .i64 a0, .int .i64 a1] 64 (0, 0)) (bk BK4) hb); clear BK4; have BK4 := n_; clear n_; have n_ := Aside0.mk (blk_below (g := g5) (o := .cells #[.int .i64 b0, .int .i64 b1] 64 (0, 0)) (bk BK5) hb); clear BK5; have BK5 := n_; clear n_; have n_ := Aside0.mk (blk_below (g := g6) (o := .cells #[.int .i64 c0, .int .i64 c1] 64 (0, 0)) (bk BK6) hb); clear BK6; have BK6 := n_; clear n_; replace HB := bs HB hb; clear hb; have z40 := bc BK4 0; have z41 := bc BK4 1; have z50 := bc BK5 0; have z51 := bc BK5 1; have z60 := bc BK6 0; have z61 := bc BK6 1))
    go_ret
    exact ⟨rfl, bl HB⟩
  · rw [if_neg e1] at H
    have e1b : decide (0 ≤ t) = false := decide_eq_false e1
    clear e1
    replace H := Option.bind_eq_some_iff.mp H
    obtain ⟨s, A2, H⟩ := H
    replace A2 := Aside0.mk A2
    have A3 := Aside0.mk H
    clear H
    go_enter Try.func98, Try.ntmps98
    go_wp2_with (first | ((with_reducible refine gate_dst (N := 3) rfl ?_); refine bx 3 #[.int .i64 a0, .int .i64 a1] 64 ?_; intro g4 hg w4 hbox hb; have BK4 := Aside0.mk hbox; replace HB := bs HB hb; clear hb hbox hg; have z40 := bc BK4 0; have z41 := bc BK4 1) | ((with_reducible refine gate_dst (N := 4) rfl ?_); refine bx 4 #[.int .i64 b0, .int .i64 b1] 64 ?_; intro g5 hg w5 hbox hb; have n_ := Aside0.mk (blk_below (g := g4) (o := .cells #[.int .i64 a0, .int .i64 a1] 64 (0, 0)) (bk BK4) hb); clear BK4; have BK4 := n_; clear n_; have BK5 := Aside0.mk hbox; replace HB := bs HB hb; clear hb hbox hg; have z40 := bc BK4 0; have z41 := bc BK4 1; have z50 := bc BK5 0; have z51 := bc BK5 1) | ((with_reducible refine gate_dst (N := 5) rfl ?_); refine bx 5 #[.int .i64 c0, .int .i64 c1] 64 ?_; intro g6 hg w6 hbox hb; have n_ := Aside0.mk (blk_below (g := g4) (o := .cells #[.int .i64 a0, .int .i64 a1] 64 (0, 0)) (bk BK4) hb); clear BK4; have BK4 := n_; clear n_; have n_ := Aside0.mk (blk_below (g := g5) (o := .cells #[.int .i64 b0, .int .i64 b1] 64 (0, 0)) (bk BK5) hb); clear BK5; have BK5 := n_; clear n_; have BK6 := Aside0.mk hbox; replace HB := bs HB hb; clear hb hbox hg; have z40 := bc BK4 0; have z41 := bc BK4 1; have z50 := bc BK5 0; have z51 := bc BK5 1; have z60 := bc BK6 0; have z61 := bc BK6 1) | (go_at_call 96; (with_reducible refine (areNear_pts.calls 1000 (some ⟨w6.heap.size, 0, none⟩) 3 3 [⟨a0, a1⟩, ⟨b0, b1⟩, ⟨c0, c1⟩] t _ rfl (pts3 a0 a1 b0 b1 c0 c1 (heap_alloc_new _ _)) A1.out).mono ?_); rintro e w9 ⟨rfl, hb⟩; have n_ := Aside0.mk (blk_below (g := g4) (o := .cells #[.int .i64 a0, .int .i64 a1] 64 (0, 0)) (bk BK4) hb); clear BK4; have BK4 := n_; clear n_; have n_ := Aside0.mk (blk_below (g := g5) (o := .cells #[.int .i64 b0, .int .i64 b1] 64 (0, 0)) (bk BK5) hb); clear BK5; have BK5 := n_; clear n_; have n_ := Aside0.mk (blk_below (g := g6) (o := .cells #[.int .i64 c0, .int .i64 c1] 64 (0, 0)) (bk BK6) hb); clear BK6; have BK6 := n_; clear n_; replace HB := bs HB hb; clear hb; have z40 := bc BK4 0; have z41 := bc BK4 1; have z50 := bc BK5 0; have z51 := bc BK5 1; have z60 := bc BK6 0; have z61 := bc BK6 1) | (go_at_call 126; (with_reducible refine (impl_area.calls a0 a1 b0 b1 c0 c1 s _ A2.out).mono ?_); rintro e w10 ⟨rfl, hb⟩; replace HB := bs HB hb; clear hb) | (go_at_call 125; (with_reducible refine (impl_signOf.calls s r _ A3.out).mono ?_); rintro e w11 ⟨rfl, ⟨nd11, rfl⟩⟩))
    go_ret
    exact ⟨rfl, bl HB⟩

end Go.Proofs.Ytiimkifkakdalaa.P
