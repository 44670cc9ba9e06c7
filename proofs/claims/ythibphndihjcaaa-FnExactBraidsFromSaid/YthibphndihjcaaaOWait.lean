/- spec.l13Waits: what a call of it computes. Conditions: none. -/
import Derived.Test.YthibphndihjcaaaP84
import Derived.Test.YthibphndihjcaaaWAll2
namespace Go.Proofs.Ythibphndihjcaaa.P
open Go.RowKit Go.Proofs.YthibphndihjcaaaW.PrintWords Go.Proofs.YthibphndihjcaaaW.PrintLast Go.Proofs.YthibphndihjcaaaW.PrintMore
set_option linter.unusedVariables false
set_option linter.unusedSimpArgs false

def wtI (n a b : Int) : Int := wrap64 (wrap64 (a * n) + b)
def wtB (i j x a c : Int) : Int := wrap64 (wrap64 (wrap64 (wrap64 (i + j) + x) - a) - c)
/-- Does the pair wait for the third element x? -/
def wtD (i j x : Int) (pl fi mid : Bool) : Bool := if i < x then (if x < j then !fi else (if pl = true then false else !mid)) else (if decide (x < i) = pl then !mid else false)
def wtF (n : Int) (l : List Bool) (pl : Bool) (a b c : Int) : Option Bool := if pl = true then some (rdOf false l (wtI n a b)) else (if 0 ≤ wtI n b c then (if wtI n b c < (l.length : Int) then some (rdOf false l (wtI n b c)) else none) else none)
def spec_l13Waits.l0 : Nat → Int → ByteArray → List Bool → Int → Int → Int → Option Bool
  | 0, _, _, _, _, _, _ => none
  | k + 1, n, s, l, i, j, x => if x < n then (if x = i then spec_l13Waits.l0 k n s l i j (wrap64 (x + 1)) else (if x = j then spec_l13Waits.l0 k n s l i j (wrap64 (x + 1)) else ((spec_l1Min.f i x).bind fun a => (spec_l1Max.f j x).bind fun c => (spec_l3At.f k n s a (wtB i j x a c) c).bind fun t => (if 0 ≤ wtI n a (wtB i j x a c) then (if wtI n a (wtB i j x a c) < (l.length : Int) then ((wtF n l (decide (0 < t)) a (wtB i j x a c) c).bind fun fi => (if 0 ≤ wtI n a c then (if wtI n a c < (l.length : Int) then (if wtD i j x (decide (0 < t)) fi (rdOf false l (wtI n a c)) = true then some true else spec_l13Waits.l0 k n s l i j (wrap64 (x + 1))) else none) else none)) else none) else none)))) else some false
def spec_l13Waits.f (k : Nat) (n : Int) (s : ByteArray) (l : List Bool) (i j : Int) : Option Bool := spec_l13Waits.l0 k n s l i j 0
theorem spec_l13Waits.mono_l : ∀ k, (∀ y0 y1 y2 y3 y4 y5, LeO (spec_l13Waits.l0 k y0 y1 y2 y3 y4 y5) (spec_l13Waits.l0 (k + 1) y0 y1 y2 y3 y4 y5))
  | 0 => fun _ _ _ _ _ _ r h => by simp [spec_l13Waits.l0] at h
  | k + 1 => by
    have ih0 := spec_l13Waits.mono_l k
    intro y0 y1 y2 y3 y4 y5
    unfold spec_l13Waits.l0
    repeat' first
      | (with_reducible exact ih0 _ _ _ _ _ _)
      | (with_reducible exact spec_l3At.mono _ _ _ _ _ _)
      | (with_reducible exact LeO.refl _)
      | (with_reducible refine LeO.ite ?_ ?_)
      | (with_reducible refine LeO.bind ?_ (fun _ => ?_))
theorem spec_l13Waits.mono : ∀ a0 a1 a2 a3 a4 k, LeO (spec_l13Waits.f k a0 a1 a2 a3 a4) (spec_l13Waits.f (k + 1) a0 a1 a2 a3 a4) := fun a0 a1 a2 a3 a4 k => spec_l13Waits.mono_l k _ _ _ _ _ _
set_option maxHeartbeats 8000000 in
set_option maxRecDepth 100000 in
theorem spec_l13Waits.calls (k : Nat) (a0_0 : Int) (a0_1 : ByteArray) (A1 : Option Addr) (c1 : Nat) (l1 : List Bool) (a2 : Int) (a3 : Int) (r : Bool) (w : World) (hr1 : Kd.C Kd.bool w A1 l1.length l1) (hc1 : l1.length ≤ c1) (h : spec_l13Waits.f k a0_0 a0_1 l1 a2 a3 = some r) :
    Calls Try.prog 66 #[.agg #[.int .i64 a0_0, .string a0_1], .slice A1 l1.length c1, .int .i64 a2, .int .i64 a3] w fun e w' => e = .returned (.bool r) ∧ Below w.heap.size w w' := by
  have hu28 := Try.underlying28
  have HR1 := Aside0.mk hr1
  have HC1 := Aside0.mk hc1
  have HB := Aside0.mk (Below.refl w.heap.size w)
  have H' := Aside0.mk (show spec_l13Waits.l0 k a0_0 a0_1 l1 a2 a3 0 = some r from h)
  clear h hr1 hc1
  go_enter Try.func66, Try.ntmps66
  go_wp2_with (first | ((with_reducible refine gate_dst (N := 4) rfl ?_); refine box_event ?hg (N := 4) ?hd (cs := #[.int .i64 a0_0, .string a0_1]) (t := 28) ?hr ?_; (case hd => rfl); (case hg => rfl); (case hr => first | (go_simp; done) | (go_simp; rfl)); intro g3 hg w3 hbox hb; have n0_ := Aside0.mk (below_step (by repeat (first | (with_reducible first | exact HB.out | apply below_alloc | apply pw_below_drewN | apply below_drew1) | exact HB.out)) hb); have GE3 := Aside0.mk ((by rw [hg]; exact (below_size (by repeat (first | (with_reducible first | exact HB.out | apply below_alloc | apply pw_below_drewN | apply below_drew1) | exact HB.out)))) : w.heap.size ≤ g3); have BK3 := Aside0.mk hbox; clear HB; have HB := n0_; clear n0_ hb hbox hg; have hcz3_0 : w3.cell? ⟨g3, 0, none⟩ = some (.int .i64 a0_0) := (blk_cell BK3.out 0).trans rfl; have hfz3_0 := blk_frozen BK3.out 0; have hcz3_1 : w3.cell? ⟨g3, 1, none⟩ = some (.string a0_1) := (blk_cell BK3.out 1).trans rfl; have hfz3_1 := blk_frozen BK3.out 1))
  have GE := GE3
  go_loopg [9] k (fun kq v9 w' => ∃ (x : Int), v9 = .int .i64 x ∧ Aside0 (spec_l13Waits.l0 kq a0_0 a0_1 l1 a2 a3 x = some r) ∧ Aside0 (kq ≤ k) ∧ Aside0 (w'.heap[g3]? = some (.cells #[.int .i64 a0_0, .string a0_1] 28 (0, 0))) ∧ Aside0 (Below w.heap.size w w'))
  case atStart => exact ⟨0, rfl, H', ⟨Nat.le_refl _⟩, BK3, HB⟩
  case round =>
    clear H' HB BK3 hcz3_0 hcz3_1 hfz3_0 hfz3_1
    obtain ⟨x, rfl, HA, HK1, BK, HB⟩ := hrel
    have hz0 := bc BK 0
    have hz1 := bc BK 1
    cases gk with
    | zero => exact absurd HA.out (by simp [spec_l13Waits.l0])
    | succ k1 =>
      have H := HA.out
      clear HA
      simp only [spec_l13Waits.l0] at H
      by_cases c3 : x < a0_0
      · rw [if_pos c3] at H
        have c3b : decide (x < a0_0) = true := decide_eq_true c3
        clear c3
        by_cases c4 : x = a2
        · rw [if_pos c4] at H
          have c4b : (x == a2) = true := beq_iff_eq.mpr c4
          have H' := Aside0.mk H
          clear H c4
          go_wp2
          go_roundg k1
          case measure => have := HK1.out; omega
          case rel => exact ⟨(wrap64 (x + 1)), (by first | rfl | (simp; done) | (simp [*]; done)), H', ⟨by have := HK1.out; omega⟩, BK, HB⟩
        · rw [if_neg c4] at H
          have c4b : (x == a2) = false := beq_eq_false_iff_ne.mpr c4
          have C4 := Aside0.mk c4
          clear c4
          by_cases c5 : x = a3
          · rw [if_pos c5] at H
            have c5b : (x == a3) = true := beq_iff_eq.mpr c5
            have H' := Aside0.mk H
            clear H c5
            go_wp2
            go_roundg k1
            case measure => have := HK1.out; omega
            case rel => exact ⟨(wrap64 (x + 1)), (by first | rfl | (simp; done) | (simp [*]; done)), H', ⟨by have := HK1.out; omega⟩, BK, HB⟩
          · rw [if_neg c5] at H
            have c5b : (x == a3) = false := beq_eq_false_iff_ne.mpr c5
            clear c5
            obtain ⟨a, A1_, H⟩ := Option.bind_eq_some_iff.mp H
            have AMIN := Aside0.mk A1_
            obtain ⟨c, A2_, H⟩ := Option.bind_eq_some_iff.mp H
            have AMAX := Aside0.mk A2_
            obtain ⟨b, hB⟩ : ∃ b, wtB a2 a3 x a c = b := ⟨_, rfl⟩
            rw [hB] at H
            obtain ⟨t, A3_, H⟩ := Option.bind_eq_some_iff.mp H
            have AAT := Aside0.mk A3_
            clear A1_ A2_ A3_
            unfold wtB at hB
            obtain ⟨m1, hm1⟩ : ∃ m, wtI a0_0 a b = m := ⟨_, rfl⟩
            obtain ⟨m2, hm2⟩ : ∃ m, wtI a0_0 b c = m := ⟨_, rfl⟩
            obtain ⟨m3, hm3⟩ : ∃ m, wtI a0_0 a c = m := ⟨_, rfl⟩
            unfold wtF at H
            rw [hm1, hm2, hm3] at H
            unfold wtI at hm1 hm2 hm3
            by_cases c6 : 0 ≤ m1
            case neg => rw [if_neg c6] at H; exact absurd H (by simp)
            rw [if_pos c6] at H
            by_cases c7 : m1 < (l1.length : Int)
            case neg => rw [if_neg c7] at H; exact absurd H (by simp)
            rw [if_pos c7] at H
            obtain ⟨fi, A4_, H⟩ := Option.bind_eq_some_iff.mp H
            by_cases c8 : 0 ≤ m3
            case neg => rw [if_neg c8] at H; exact absurd H (by simp)
            rw [if_pos c8] at H
            by_cases c9 : m3 < (l1.length : Int)
            case neg => rw [if_neg c9] at H; exact absurd H (by simp)
            rw [if_pos c9] at H
            obtain ⟨ad, e1, hx1⟩ := Kd.at_bool HR1.out m1 c6 c7
            obtain ⟨ad3, e3, hx3⟩ := Kd.at_bool HR1.out m3 c8 c9
            subst e1
            obtain rfl : ad = ad3 := Option.some.inj e3
            clear e3
            have c6b := eq_true c6
            have c7b := eq_true c7
            have c8b := eq_true c8
            have c9b := eq_true c9
            clear c6 c7 c8 c9
            have X1 := Aside0.mk hx1
            have X3 := Aside0.mk hx3
            clear hx1 hx3
            cases hpl : decide (0 < t) with
            | true =>
              rw [hpl, if_pos rfl] at A4_
              obtain rfl := Option.some.inj A4_
              rw [hpl] at H
              clear A4_
              generalize rdOf false l1 m1 = fi at H X1
              generalize rdOf false l1 m3 = mid at H X3
              by_cases d1 : a2 < x
              · have d1b : decide (a2 < x) = true := decide_eq_true d1
                have d1c : decide (x < a2) = false := decide_eq_false (by omega)
                by_cases d2 : x < a3
                · have d2b : decide (x < a3) = true := decide_eq_true d2
                  simp only [wtD, if_pos d1, if_pos d2] at H
                  clear d1 d2
                  cases fi with
                  | true =>
                    rw [if_neg (by simp)] at H
                    have H' := Aside0.mk H
                    clear H
                    (go_wp2_with (first | (go_at_call 84; (with_reducible refine (spec_l1Min.calls a2 x a _ AMIN.out).mono ?_); rintro e w6 ⟨rfl, ⟨nd6, rfl⟩⟩) | (go_at_call 85; (with_reducible refine (spec_l1Max.calls a3 x c _ AMAX.out).mono ?_); rintro e w6 ⟨rfl, ⟨nd7, rfl⟩⟩) | (go_at_call 86; (with_reducible refine (spec_l3At.calls k1 a0_0 a0_1 a b c t _ AAT.out).mono ?_); rintro e w8 ⟨rfl, hb8⟩; have BK8 := Aside0.mk (blk_below (bk BK) hb8); have HB8 := bsg HB GE hb8; clear hb8; have hz8 := bc BK8 0; have hz9 := bc BK8 1; have hx1 := (HB8.out.cell (World.block_lt_of_cell? w _ X1.out)).trans X1.out; have hx3 := (HB8.out.cell (World.block_lt_of_cell? w _ X3.out)).trans X3.out)); go_roundg k1; (case measure => have := HK1.out; omega); (case rel => exact ⟨(wrap64 (x + 1)), (by first | rfl | (simp; done) | (simp [*]; done)), H', ⟨by have := HK1.out; omega⟩, ⟨by first | exact BK8.out | exact bk BK⟩, ⟨by first | exact bg HB8 GE | exact bg HB GE⟩⟩))
                  | false =>
                    rw [if_pos (by simp)] at H
                    obtain rfl := Option.some.inj H
                    clear H
                    (go_wp2_with (first | (go_at_call 84; (with_reducible refine (spec_l1Min.calls a2 x a _ AMIN.out).mono ?_); rintro e w6 ⟨rfl, ⟨nd6, rfl⟩⟩) | (go_at_call 85; (with_reducible refine (spec_l1Max.calls a3 x c _ AMAX.out).mono ?_); rintro e w6 ⟨rfl, ⟨nd7, rfl⟩⟩) | (go_at_call 86; (with_reducible refine (spec_l3At.calls k1 a0_0 a0_1 a b c t _ AAT.out).mono ?_); rintro e w8 ⟨rfl, hb8⟩; have BK8 := Aside0.mk (blk_below (bk BK) hb8); have HB8 := bsg HB GE hb8; clear hb8; have hz8 := bc BK8 0; have hz9 := bc BK8 1; have hx1 := (HB8.out.cell (World.block_lt_of_cell? w _ X1.out)).trans X1.out; have hx3 := (HB8.out.cell (World.block_lt_of_cell? w _ X3.out)).trans X3.out)); go_ret; exact ⟨rfl, bg HB8 GE⟩)
                · have d2b : decide (x < a3) = false := decide_eq_false d2
                  simp only [wtD, if_pos d1, if_neg d2] at H
                  clear d1 d2
                  rw [if_neg (by simp)] at H
                  have H' := Aside0.mk H
                  clear H
                  (go_wp2_with (first | (go_at_call 84; (with_reducible refine (spec_l1Min.calls a2 x a _ AMIN.out).mono ?_); rintro e w6 ⟨rfl, ⟨nd6, rfl⟩⟩) | (go_at_call 85; (with_reducible refine (spec_l1Max.calls a3 x c _ AMAX.out).mono ?_); rintro e w6 ⟨rfl, ⟨nd7, rfl⟩⟩) | (go_at_call 86; (with_reducible refine (spec_l3At.calls k1 a0_0 a0_1 a b c t _ AAT.out).mono ?_); rintro e w8 ⟨rfl, hb8⟩; have BK8 := Aside0.mk (blk_below (bk BK) hb8); have HB8 := bsg HB GE hb8; clear hb8; have hz8 := bc BK8 0; have hz9 := bc BK8 1; have hx1 := (HB8.out.cell (World.block_lt_of_cell? w _ X1.out)).trans X1.out; have hx3 := (HB8.out.cell (World.block_lt_of_cell? w _ X3.out)).trans X3.out)); go_roundg k1; (case measure => have := HK1.out; omega); (case rel => exact ⟨(wrap64 (x + 1)), (by first | rfl | (simp; done) | (simp [*]; done)), H', ⟨by have := HK1.out; omega⟩, ⟨by first | exact BK8.out | exact bk BK⟩, ⟨by first | exact bg HB8 GE | exact bg HB GE⟩⟩))
              · have d1b : decide (a2 < x) = false := decide_eq_false d1
                have d1c : decide (x < a2) = true := decide_eq_true (by have := C4.out; omega)
                simp only [wtD, if_neg d1, d1c] at H
                clear d1
                cases mid with
                | true =>
                  rw [if_neg (by simp)] at H
                  have H' := Aside0.mk H
                  clear H
                  (go_wp2_with (first | (go_at_call 84; (with_reducible refine (spec_l1Min.calls a2 x a _ AMIN.out).mono ?_); rintro e w6 ⟨rfl, ⟨nd6, rfl⟩⟩) | (go_at_call 85; (with_reducible refine (spec_l1Max.calls a3 x c _ AMAX.out).mono ?_); rintro e w6 ⟨rfl, ⟨nd7, rfl⟩⟩) | (go_at_call 86; (with_reducible refine (spec_l3At.calls k1 a0_0 a0_1 a b c t _ AAT.out).mono ?_); rintro e w8 ⟨rfl, hb8⟩; have BK8 := Aside0.mk (blk_below (bk BK) hb8); have HB8 := bsg HB GE hb8; clear hb8; have hz8 := bc BK8 0; have hz9 := bc BK8 1; have hx1 := (HB8.out.cell (World.block_lt_of_cell? w _ X1.out)).trans X1.out; have hx3 := (HB8.out.cell (World.block_lt_of_cell? w _ X3.out)).trans X3.out)); go_roundg k1; (case measure => have := HK1.out; omega); (case rel => exact ⟨(wrap64 (x + 1)), (by first | rfl | (simp; done) | (simp [*]; done)), H', ⟨by have := HK1.out; omega⟩, ⟨by first | exact BK8.out | exact bk BK⟩, ⟨by first | exact bg HB8 GE | exact bg HB GE⟩⟩))
                | false =>
                  rw [if_pos (by simp)] at H
                  obtain rfl := Option.some.inj H
                  clear H
                  (go_wp2_with (first | (go_at_call 84; (with_reducible refine (spec_l1Min.calls a2 x a _ AMIN.out).mono ?_); rintro e w6 ⟨rfl, ⟨nd6, rfl⟩⟩) | (go_at_call 85; (with_reducible refine (spec_l1Max.calls a3 x c _ AMAX.out).mono ?_); rintro e w6 ⟨rfl, ⟨nd7, rfl⟩⟩) | (go_at_call 86; (with_reducible refine (spec_l3At.calls k1 a0_0 a0_1 a b c t _ AAT.out).mono ?_); rintro e w8 ⟨rfl, hb8⟩; have BK8 := Aside0.mk (blk_below (bk BK) hb8); have HB8 := bsg HB GE hb8; clear hb8; have hz8 := bc BK8 0; have hz9 := bc BK8 1; have hx1 := (HB8.out.cell (World.block_lt_of_cell? w _ X1.out)).trans X1.out; have hx3 := (HB8.out.cell (World.block_lt_of_cell? w _ X3.out)).trans X3.out)); go_ret; exact ⟨rfl, bg HB8 GE⟩)
            | false =>
              rw [hpl, if_neg (by simp)] at A4_
              by_cases c10 : 0 ≤ m2
              case neg => rw [if_neg c10] at A4_; exact absurd A4_ (by simp)
              rw [if_pos c10] at A4_
              by_cases c11 : m2 < (l1.length : Int)
              case neg => rw [if_neg c11] at A4_; exact absurd A4_ (by simp)
              rw [if_pos c11] at A4_
              obtain rfl := Option.some.inj A4_
              rw [hpl] at H
              clear A4_
              obtain ⟨ad2, e2, hx2⟩ := Kd.at_bool HR1.out m2 c10 c11
              obtain rfl : ad = ad2 := Option.some.inj e2
              clear e2
              have c10b := eq_true c10
              have c11b := eq_true c11
              clear c10 c11
              have X2 := Aside0.mk hx2
              clear hx2
              generalize rdOf false l1 m2 = fi at H X2
              generalize rdOf false l1 m3 = mid at H X3
              by_cases d1 : a2 < x
              · have d1b : decide (a2 < x) = true := decide_eq_true d1
                have d1c : decide (x < a2) = false := decide_eq_false (by omega)
                by_cases d2 : x < a3
                · have d2b : decide (x < a3) = true := decide_eq_true d2
                  simp only [wtD, if_pos d1, if_pos d2] at H
                  clear d1 d2
                  cases fi with
                  | true =>
                    rw [if_neg (by simp)] at H
                    have H' := Aside0.mk H
                    clear H
                    (go_wp2_with (first | (go_at_call 84; (with_reducible refine (spec_l1Min.calls a2 x a _ AMIN.out).mono ?_); rintro e w6 ⟨rfl, ⟨nd6, rfl⟩⟩) | (go_at_call 85; (with_reducible refine (spec_l1Max.calls a3 x c _ AMAX.out).mono ?_); rintro e w6 ⟨rfl, ⟨nd7, rfl⟩⟩) | (go_at_call 86; (with_reducible refine (spec_l3At.calls k1 a0_0 a0_1 a b c t _ AAT.out).mono ?_); rintro e w8 ⟨rfl, hb8⟩; have BK8 := Aside0.mk (blk_below (bk BK) hb8); have HB8 := bsg HB GE hb8; clear hb8; have hz8 := bc BK8 0; have hz9 := bc BK8 1; have hx1 := (HB8.out.cell (World.block_lt_of_cell? w _ X1.out)).trans X1.out; have hx3 := (HB8.out.cell (World.block_lt_of_cell? w _ X3.out)).trans X3.out; have hx2 := (HB8.out.cell (World.block_lt_of_cell? w _ X2.out)).trans X2.out)); go_roundg k1; (case measure => have := HK1.out; omega); (case rel => exact ⟨(wrap64 (x + 1)), (by first | rfl | (simp; done) | (simp [*]; done)), H', ⟨by have := HK1.out; omega⟩, ⟨by first | exact BK8.out | exact bk BK⟩, ⟨by first | exact bg HB8 GE | exact bg HB GE⟩⟩))
                  | false =>
                    rw [if_pos (by simp)] at H
                    obtain rfl := Option.some.inj H
                    clear H
                    (go_wp2_with (first | (go_at_call 84; (with_reducible refine (spec_l1Min.calls a2 x a _ AMIN.out).mono ?_); rintro e w6 ⟨rfl, ⟨nd6, rfl⟩⟩) | (go_at_call 85; (with_reducible refine (spec_l1Max.calls a3 x c _ AMAX.out).mono ?_); rintro e w6 ⟨rfl, ⟨nd7, rfl⟩⟩) | (go_at_call 86; (with_reducible refine (spec_l3At.calls k1 a0_0 a0_1 a b c t _ AAT.out).mono ?_); rintro e w8 ⟨rfl, hb8⟩; have BK8 := Aside0.mk (blk_below (bk BK) hb8); have HB8 := bsg HB GE hb8; clear hb8; have hz8 := bc BK8 0; have hz9 := bc BK8 1; have hx1 := (HB8.out.cell (World.block_lt_of_cell? w _ X1.out)).trans X1.out; have hx3 := (HB8.out.cell (World.block_lt_of_cell? w _ X3.out)).trans X3.out; have hx2 := (HB8.out.cell (World.block_lt_of_cell? w _ X2.out)).trans X2.out)); go_ret; exact ⟨rfl, bg HB8 GE⟩)
                · have d2b : decide (x < a3) = false := decide_eq_false d2
                  simp only [wtD, if_pos d1, if_neg d2] at H
                  clear d1 d2
                  cases mid with
                  | true =>
                    rw [if_neg (by simp)] at H
                    have H' := Aside0.mk H
                    clear H
                    (go_wp2_with (first | (go_at_call 84; (with_reducible refine (spec_l1Min.calls a2 x a _ AMIN.out).mono ?_); rintro e w6 ⟨rfl, ⟨nd6, rfl⟩⟩) | (go_at_call 85; (with_reducible refine (spec_l1Max.calls a3 x c _ AMAX.out).mono ?_); rintro e w6 ⟨rfl, ⟨nd7, rfl⟩⟩) | (go_at_call 86; (with_reducible refine (spec_l3At.calls k1 a0_0 a0_1 a b c t _ AAT.out).mono ?_); rintro e w8 ⟨rfl, hb8⟩; have BK8 := Aside0.mk (blk_below (bk BK) hb8); have HB8 := bsg HB GE hb8; clear hb8; have hz8 := bc BK8 0; have hz9 := bc BK8 1; have hx1 := (HB8.out.cell (World.block_lt_of_cell? w _ X1.out)).trans X1.out; have hx3 := (HB8.out.cell (World.block_lt_of_cell? w _ X3.out)).trans X3.out; have hx2 := (HB8.out.cell (World.block_lt_of_cell? w _ X2.out)).trans X2.out)); go_roundg k1; (case measure => have := HK1.out; omega); (case rel => exact ⟨(wrap64 (x + 1)), (by first | rfl | (simp; done) | (simp [*]; done)), H', ⟨by have := HK1.out; omega⟩, ⟨by first | exact BK8.out | exact bk BK⟩, ⟨by first | exact bg HB8 GE | exact bg HB GE⟩⟩))
                  | false =>
                    rw [if_pos (by simp)] at H
                    obtain rfl := Option.some.inj H
                    clear H
                    (go_wp2_with (first | (go_at_call 84; (with_reducible refine (spec_l1Min.calls a2 x a _ AMIN.out).mono ?_); rintro e w6 ⟨rfl, ⟨nd6, rfl⟩⟩) | (go_at_call 85; (with_reducible refine (spec_l1Max.calls a3 x c _ AMAX.out).mono ?_); rintro e w6 ⟨rfl, ⟨nd7, rfl⟩⟩) | (go_at_call 86; (with_reducible refine (spec_l3At.calls k1 a0_0 a0_1 a b c t _ AAT.out).mono ?_); rintro e w8 ⟨rfl, hb8⟩; have BK8 := Aside0.mk (blk_below (bk BK) hb8); have HB8 := bsg HB GE hb8; clear hb8; have hz8 := bc BK8 0; have hz9 := bc BK8 1; have hx1 := (HB8.out.cell (World.block_lt_of_cell? w _ X1.out)).trans X1.out; have hx3 := (HB8.out.cell (World.block_lt_of_cell? w _ X3.out)).trans X3.out; have hx2 := (HB8.out.cell (World.block_lt_of_cell? w _ X2.out)).trans X2.out)); go_ret; exact ⟨rfl, bg HB8 GE⟩)
              · have d1b : decide (a2 < x) = false := decide_eq_false d1
                have d1c : decide (x < a2) = true := decide_eq_true (by have := C4.out; omega)
                simp only [wtD, if_neg d1, d1c] at H
                clear d1
                rw [if_neg (by simp)] at H
                have H' := Aside0.mk H
                clear H
                (go_wp2_with (first | (go_at_call 84; (with_reducible refine (spec_l1Min.calls a2 x a _ AMIN.out).mono ?_); rintro e w6 ⟨rfl, ⟨nd6, rfl⟩⟩) | (go_at_call 85; (with_reducible refine (spec_l1Max.calls a3 x c _ AMAX.out).mono ?_); rintro e w6 ⟨rfl, ⟨nd7, rfl⟩⟩) | (go_at_call 86; (with_reducible refine (spec_l3At.calls k1 a0_0 a0_1 a b c t _ AAT.out).mono ?_); rintro e w8 ⟨rfl, hb8⟩; have BK8 := Aside0.mk (blk_below (bk BK) hb8); have HB8 := bsg HB GE hb8; clear hb8; have hz8 := bc BK8 0; have hz9 := bc BK8 1; have hx1 := (HB8.out.cell (World.block_lt_of_cell? w _ X1.out)).trans X1.out; have hx3 := (HB8.out.cell (World.block_lt_of_cell? w _ X3.out)).trans X3.out; have hx2 := (HB8.out.cell (World.block_lt_of_cell? w _ X2.out)).trans X2.out)); go_roundg k1; (case measure => have := HK1.out; omega); (case rel => exact ⟨(wrap64 (x + 1)), (by first | rfl | (simp; done) | (simp [*]; done)), H', ⟨by have := HK1.out; omega⟩, ⟨by first | exact BK8.out | exact bk BK⟩, ⟨by first | exact bg HB8 GE | exact bg HB GE⟩⟩))
      · rw [if_neg c3] at H
        have c3b : decide (x < a0_0) = false := decide_eq_false c3
        clear c3
        obtain rfl := Option.some.inj H
        clear H
        go_wp2
        go_ret
        exact ⟨rfl, bg HB GE⟩

end Go.Proofs.Ythibphndihjcaaa.P
