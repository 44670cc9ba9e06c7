/- impl.SignsOfWiring: what a call of it computes. Conditions: none. -/
import Derived.Test.YthibphndihjcaaaOWhen
import Derived.Test.YthibphndihjcaaaP59
import Derived.Test.YthibphndihjcaaaP56
namespace Go.Proofs.Ythibphndihjcaaa.P
open Go.RowKit Go.Proofs.YthibphndihjcaaaW.PrintWords Go.Proofs.YthibphndihjcaaaW.PrintLast Go.Proofs.YthibphndihjcaaaW.PrintMore
attribute [local go_sem] max2_int min2_int max_two min_two max_three min_three max_four min_four
set_option linter.unusedVariables false
set_option linter.unusedSimpArgs false

theorem R_row {α : Type} {d : Kd α} {W : World} {base e g : Nat} {ok : Nat → Prop} {v : Value} {xs : List α} (h : d.R e W base ok v xs) (hok : ∀ k, ok k → k ≠ g) (cs : Array Value) : d.R e (W.setRow g cs) base ok v xs := Kd.R_step h (fun k ho _ => setRow_other W g k cs (hok k ho))
theorem R_newer {α : Type} {d : Kd α} {W : World} {base e g : Nat} {ok : Nat → Prop} {v : Value} {xs : List α} (h : d.R e W base ok v xs) (hg : W.heap.size ≤ g) : d.R e W base (fun k => ok k ∧ k ≠ g) v xs := Kd.R_mono (Kd.R_bound h) (fun k hk => ⟨hk.1, by have := hk.2.2.1; omega⟩)
theorem results_row_tmp {P : Program} {fn : Func} {p u : Tmp} {ty : TypeId} (h : fn.results = #[.cell p ty, .tmp u]) (tmps : Array Value) (w : World) (g : Nat) (t : TypeId) (cs : Array Value) (fr : Nat × Nat) (d : TypeDesc)
    (hp : tmps.getD p undef = .pointer (some ⟨g, 0, none⟩)) (hg : w.heap[g]? = some (.cells cs t fr))
    (hu : P.underlying ty = some d) (hd : (match d with | .struct _ | .array _ _ => true | _ => false) = true) (hi : (P.info? ty).map (·.size) = some cs.size) :
    (results fn tmps).run P w = .ok (.tuple #[.agg cs, tmps.getD u undef]) w := by
  rw [results_cell_tmp h, hp]
  simp [asAddr, run_loadVar_row w g t ty cs fr d hg hu hd hi, Result.andThen]
def impl_SignsOfWiring.l0 : Nat → List Int → List Int → List S72 → Int → Option (List Int)
  | 0, _, _, _, _ => none
  | k + 1, L, x, ts, i => if i < (ts.length : Int) then (if 0 ≤ i then (if 0 ≤ (rd_T72 ts i).f0 ∧ (rd_T72 ts i).f0 < 6 ∧ 0 ≤ (rd_T72 ts i).f1 ∧ (rd_T72 ts i).f1 < 6 ∧ 0 ≤ (rd_T72 ts i).f2 ∧ (rd_T72 ts i).f2 < 6 then ((impl_chi_set.f x (rd_T72 ts i).f0 (rd_T72 ts i).f1 (rd_T72 ts i).f2 (if decide (L.getD ((rd_T72 ts i).f0.toNat * 6 + (rd_T72 ts i).f1.toNat) 0 < L.getD ((rd_T72 ts i).f1.toNat * 6 + (rd_T72 ts i).f2.toNat) 0) = true then 1 else -1)).bind fun y => impl_SignsOfWiring.l0 k L y ts (wrap64 (i + 1))) else none) else none) else some x
theorem impl_SignsOfWiring.mono_l : ∀ k, (∀ y0 y1 y2 y3, LeO (impl_SignsOfWiring.l0 k y0 y1 y2 y3) (impl_SignsOfWiring.l0 (k + 1) y0 y1 y2 y3))
  | 0 => fun _ _ _ _ r h => by simp [impl_SignsOfWiring.l0] at h
  | k + 1 => by
    have ih0 := impl_SignsOfWiring.mono_l k
    intro y0 y1 y2 y3
    unfold impl_SignsOfWiring.l0
    repeat' first
      | (with_reducible exact ih0 _ _ _ _)
      | (with_reducible exact LeO.refl _)
      | (with_reducible refine LeO.ite ?_ ?_)
      | (with_reducible refine LeO.bind ?_ (fun _ => ?_))
def impl_SignsOfWiring.f (k : Nat) (a0 : Int) (l1 : List Int) : Option (Int × ByteArray × Bool) := (impl_IsWiring.f k a0 l1).bind fun b => if b = true then ((impl_whenOf.f k a0 l1).bind fun L => (impl_triplesOf.f k a0).bind fun ts => (impl_SignsOfWiring.l0 k L (chi0 a0) ts 0).bind fun x => (impl_chi_signs.f k x).bind fun s => some (s.1, s.2, true)) else some (0, (⟨#[]⟩ : ByteArray), false)
theorem impl_SignsOfWiring.mono : ∀ a0 a1 k, LeO (impl_SignsOfWiring.f k a0 a1) (impl_SignsOfWiring.f (k + 1) a0 a1) := by
  intro a0 a1 k
  have ih0 := impl_SignsOfWiring.mono_l k
  unfold impl_SignsOfWiring.f
  repeat' first
    | (with_reducible exact ih0 _ _ _ _)
    | (with_reducible exact impl_IsWiring.mono _ _ _)
    | (with_reducible exact impl_whenOf.mono _ _ _)
    | (with_reducible exact impl_triplesOf.mono _ _)
    | (with_reducible exact impl_chi_signs.mono _ _)
    | (with_reducible exact LeO.refl _)
    | (with_reducible refine LeO.ite ?_ ?_)
    | (with_reducible refine LeO.bind ?_ (fun _ => ?_))
def sgn.T9 : Bool × List (List Nat × List Nat) := (true, [([], []), ([0], [0]), ([], []), ([2], [2]), ([1], [1]), ([4, 3], [3, 4]), ([5], [5]), ([], []), ([7], [7]), ([], []), ([9], [9]), ([8], [8]), ([11, 10], [10, 11]), ([12], [12]), ([6, 13], [6, 13])])
def sgn.B9 : List Nat := [0, 1, 0, 4, 3, 31, 63, 0, 128, 0, 512, 384, 3968, 8064, 16383]
theorem sgn.tab9 : rtab .any (opsOf Try.f19 9) = sgn.T9 := by kernel_rfl
theorem sgn.bits9 : waitsOk sgn.T9.2 sgn.B9 = true := by kernel_rfl
attribute [local go_sem] Go.Proofs.Try.underlying65 Go.Proofs.Try.underlying66 Go.Proofs.Try.underlying67 Go.Proofs.Try.underlying69
set_option maxHeartbeats 8000000 in
set_option maxRecDepth 100000 in
theorem impl_SignsOfWiring.calls (k : Nat) (a0 : Int) (A1 : Option Addr) (c1 : Nat) (l1 : List Int) (r1 : Int) (r2 : ByteArray) (r3 : Bool) (w : World) (hr1 : Kd.C (Kd.int .i64) w A1 l1.length l1) (hc1 : l1.length ≤ c1) (h : impl_SignsOfWiring.f k a0 l1 = some (r1, r2, r3)) :
    Calls Try.prog 19 #[.int .i64 a0, .slice A1 l1.length c1] w fun e w' => e = .returned (.tuple #[.agg #[.int .i64 r1, .string r2], .bool r3]) ∧ Below w.heap.size w w' := by
  have hu28 := Try.underlying28
  have hu72 := Try.underlying72
  have HR1 := Aside0.mk hr1
  have HC1 := Aside0.mk hc1
  clear hr1 hc1
  have HB := Aside0.mk (Below.refl w.heap.size w)
  have H := h
  clear h
  unfold impl_SignsOfWiring.f at H
  replace H := Option.bind_eq_some_iff.mp H
  obtain ⟨b, A30, H⟩ := H
  have A3 := Aside0.mk A30
  clear A30
  cases b with
  | false =>
    simp only [Bool.false_eq_true, if_false, Option.some.injEq, Prod.mk.injEq] at H
    obtain ⟨rfl, rfl, rfl⟩ := H
    go_enter Try.func19, Try.ntmps19
    go_wp2_with (first | ((with_reducible refine gate_dst (N := 4) rfl ?_); refine bx 4 #[.int .i64 0, .string (⟨#[]⟩ : ByteArray)] 28 ?_; intro g4 hg w2 hbox hb; have GE4 := gs HB hg; have BK4 := Aside0.mk hbox; replace HB := bs HB hb; clear hb hbox hg; have hcz4_0 := bc BK4 0; have hcz4_1 := bc BK4 1; have hfz4_0 := bf BK4 0; have hfz4_1 := bf BK4 1) | (go_at_call 52; (with_reducible refine (impl_IsWiring.calls k a0 A1 c1 l1 _ _ (Kd.C_below HR1.out HB.out) HC1.out A3.out).mono ?_); rintro e w4 ⟨rfl, hb⟩; have n0_ := Aside0.mk (blk_below BK4.out hb); replace HB := bs HB hb; clear BK4 hb; have BK4 := n0_; clear n0_; clear hcz4_0 hcz4_1 hfz4_0 hfz4_1; have hcz4_0 := bc BK4 0; have hcz4_1 := bc BK4 1; have hfz4_0 := bf BK4 0; have hfz4_1 := bf BK4 1) | ((with_reducible refine gate_store (t := 28) (p := 4) rfl ?_); refine wpList_store_row rfl 28 (.tmp 4) (.tmp 15) rfl g4 #[.int .i64 0, .string (⟨#[]⟩ : ByteArray)] rfl rfl 28 _ BK4.out (by kernel_rfl) rfl (by simp [Value.oneCell']) ?_; have n0_ := Aside0.mk (setRow_heap _ g4 _ #[.int .i64 0, .string (⟨#[]⟩ : ByteArray)] _ _ BK4.out); have n2_ := Aside0.mk (below_setRow HB.out GE4.out #[.int .i64 0, .string (⟨#[]⟩ : ByteArray)]); clear BK4 HB; generalize w4.setRow g4 #[.int .i64 0, .string (⟨#[]⟩ : ByteArray)] = w21 at n0_ n2_ ⊢; have BK4 := n0_; have HB := n2_; clear n0_ n2_))
    refine bodyPost_ret (results_row_tmp rfl _ _ g4 28 _ (0, 0) _ rfl BK4.out Try.underlying28 rfl (by kernel_rfl)) rfl ?_
    exact ⟨rfl, HB.out⟩
  | true =>
    simp only [if_true] at H
    replace H := Option.bind_eq_some_iff.mp H
    obtain ⟨L, A40, H⟩ := H
    have A4 := Aside0.mk A40
    clear A40
    replace H := Option.bind_eq_some_iff.mp H
    obtain ⟨ts, A50, H⟩ := H
    have A5 := Aside0.mk A50
    clear A50
    replace H := Option.bind_eq_some_iff.mp H
    obtain ⟨xr, A60, H⟩ := H
    have H' := Aside0.mk A60
    clear A60
    replace H := Option.bind_eq_some_iff.mp H
    obtain ⟨⟨s1, s2⟩, A70, H⟩ := H
    have A7 := Aside0.mk A70
    clear A70
    simp only [Option.some.injEq, Prod.mk.injEq] at H
    obtain ⟨rfl, rfl, rfl⟩ := H
    go_enter Try.func19, Try.ntmps19
    go_wp2_with (first | ((with_reducible refine gate_dst (N := 4) rfl ?_); refine bx 4 #[.int .i64 0, .string (⟨#[]⟩ : ByteArray)] 28 ?_; intro g4 hg w2 hbox hb; have GE4 := gs HB hg; have BK4 := Aside0.mk hbox; replace HB := bs HB hb; clear hb hbox hg; have hcz4_0 := bc BK4 0; have hcz4_1 := bc BK4 1; have hfz4_0 := bf BK4 0; have hfz4_1 := bf BK4 1) | (go_at_call 52; (with_reducible refine (impl_IsWiring.calls k a0 A1 c1 l1 _ _ (Kd.C_below HR1.out HB.out) HC1.out A3.out).mono ?_); rintro e w4 ⟨rfl, hb⟩; have n0_ := Aside0.mk (blk_below BK4.out hb); replace HB := bs HB hb; clear BK4 hb; have BK4 := n0_; clear n0_; clear hcz4_0 hcz4_1 hfz4_0 hfz4_1; have hcz4_0 := bc BK4 0; have hcz4_1 := bc BK4 1; have hfz4_0 := bf BK4 0; have hfz4_1 := bf BK4 1) | (go_at_call 58; (with_reducible refine (impl_whenOf.calls k a0 A1 c1 l1 L _ (Kd.C_below HR1.out HB.out) HC1.out A4.out).mono ?_); rintro e w5 ⟨rfl, hlen, hb⟩; have HLEN := Aside0.mk hlen; have n0_ := Aside0.mk (blk_below BK4.out hb); replace HB := bs HB hb; clear BK4 hb hlen; have BK4 := n0_; clear n0_; clear hcz4_0 hcz4_1 hfz4_0 hfz4_1) | ((with_reducible refine gate_dst (N := 6) rfl ?_); refine bx 6 (tb (List.replicate 36 0)) 62 ?_; intro g6 hg w6 hbox hb; have GE6 := gs HB hg; have NE := Aside0.mk (show g4 ≠ g6 by rw [hg]; exact Nat.ne_of_lt (blk_lt BK4.out)); have n0_ := Aside0.mk (blk_below BK4.out hb); have BK6 := Aside0.mk hbox; replace HB := bs HB hb; clear BK4; have BK4 := n0_; clear n0_ hb hbox hg) | ((with_reducible refine gate_store (t := 62) (p := 6) rfl ?_); refine wpList_store_row rfl 62 (.tmp 6) (.tmp 18) rfl g6 (tb L) rfl rfl 62 (tb (List.replicate 36 0)) BK6.out (by rw [tb_size, HLEN.out]; kernel_rfl) (by rw [tb_size, tb_size, HLEN.out]; rfl) (tb_one L) ?_; have n0_ := Aside0.mk (setRow_heap _ g6 _ (tb L) _ _ BK6.out); have n1_ := Aside0.mk ((setRow_other w6 g6 g4 (tb L) NE.out).trans BK4.out); have n2_ := Aside0.mk (below_setRow HB.out GE6.out (tb L)); clear BK6 BK4 HB; generalize w6.setRow g6 (tb L) = w7 at n0_ n1_ n2_ ⊢; have BK6 := n0_; have BK4 := n1_; have HB := n2_; clear n0_ n1_ n2_) | ((with_reducible refine gate_dst (N := 21) rfl ?_); refine chi_lit ?hg (N := 21) ?hd (n := a0) (t := 69) (ok := fun _ => True) ?hr trivial (Below.refl _ _) (Nat.le_refl _) ?_; (case hd => rfl); (case hg => rfl); (case hr => first | (go_simp; done) | (go_simp; rfl)); intro v8 w8 ho hb hg_ hnew_; clear hg_ hnew_; have HO7 := Aside0.mk (Kd.R_lower ho (below_size HB.out)); have n0_ := Aside0.mk (blk_below BK4.out hb); have n1_ := Aside0.mk (blk_below BK6.out hb); replace HB := bs HB hb; clear BK4 BK6 hb ho; have BK4 := n0_; have BK6 := n1_; clear n0_ n1_) | ((with_reducible refine gate_callee (f := 59) rfl ?_); refine goesL_ (some 23) rfl rfl Try.func59 (by kernel_rfl) rfl #[.int .i64 a0] rfl (by (try simp only [List.map_toArray, List.map_cons, List.map_nil]); first | done | rfl | (simp only [List.length_drop, List.length_take]; rfl)) ?_; (with_reducible refine (impl_triplesOf.calls k a0 ts _ A5.out).mono ?_); rintro e w9 ⟨v9, rfl, ho, hb⟩; refine ⟨_, rfl, ?_⟩; have HT := Aside0.mk (Kd.R_lower ho (below_size HB.out)); have n0_ := Aside0.mk (blk_below BK4.out hb); have n1_ := Aside0.mk (blk_below BK6.out hb); have n2_ := Aside0.mk (Kd.R_below HO7.out hb); replace HB := bs HB hb; clear BK4 BK6 HO7 hb ho; have BK4 := n0_; have BK6 := n1_; have HO7 := n2_; clear n0_ n1_ n2_; obtain ⟨Ao9, co9, eo9⟩ := Kd.R_slice HT.out; subst eo9))
    go_loopg [25] k (fun kq v25 w' => ∃ (x : List Int) (i : Int), v25 = .int .i64 i ∧ Aside0 (impl_SignsOfWiring.l0 kq L x ts i = some xr) ∧ Aside0 (kq ≤ k) ∧ Aside0 (Kd.R (Kd.int .i64) 69 w' w.heap.size (fun _ => True) v8 x) ∧ Aside0 (Kd.R k72 72 w' w.heap.size (fun _ => True) (.slice Ao9 ts.length co9) ts) ∧ Aside0 (w'.heap[g6]? = some (.cells (tb L) 62 (0, 0))) ∧ Aside0 (w'.heap[g4]? = some (.cells #[.int .i64 0, .string (⟨#[]⟩ : ByteArray)] 28 (0, 0))) ∧ Aside0 (Below w.heap.size w w'))
    case atStart => exact ⟨chi0 a0, 0, rfl, H', ⟨Nat.le_refl _⟩, HO7, HT, BK6, BK4, HB⟩
    case round =>
      clear H' HO7 HT BK6 BK4 HB
      obtain ⟨x, i, rfl, HA, HK1, HO7, HT, BK6, BK4, HB⟩ := hrel
      cases gk with
      | zero => exact absurd HA.out (by simp [impl_SignsOfWiring.l0])
      | succ k1 =>
        have H := HA.out
        clear HA
        simp only [impl_SignsOfWiring.l0] at H
        by_cases c10 : i < (ts.length : Int)
        · rw [if_pos c10] at H
          have c10b : decide (i < (ts.length : Int)) = true := decide_eq_true c10
          by_cases c11 : 0 ≤ i
          · rw [if_pos c11] at H
            obtain ⟨ad5, e5, k0, k1', k2⟩ := at_T72 (Kd.R_reads' HT.out).2.2 i c11 c10
            cases e5
            replace c10 := eq_true c10
            replace c11 := eq_true c11
            generalize rd_T72 ts i = T at H k0 k1' k2
            obtain ⟨f0, f1, f2⟩ := T
            simp only at H k0 k1' k2
            by_cases cb : 0 ≤ f0 ∧ f0 < 6 ∧ 0 ≤ f1 ∧ f1 < 6 ∧ 0 ≤ f2 ∧ f2 < 6
            · rw [if_pos cb] at H
              have CB := Aside0.mk cb
              obtain ⟨b0, b1, b2, b3, b4, b5⟩ := cb
              replace b0 := eq_true b0
              replace b1 := eq_true b1
              replace b2 := eq_true b2
              replace b3 := eq_true b3
              replace b4 := eq_true b4
              replace b5 := eq_true b5
              replace H := Option.bind_eq_some_iff.mp H
              obtain ⟨y, A80, H⟩ := H
              have A8 := Aside0.mk A80
              have H' := Aside0.mk H
              clear A80 H
              go_wp2_with (first | ((with_reducible refine gate_dst (N := 9) rfl ?_); refine bx 9 #[.int .i64 0, .int .i64 0, .int .i64 0] 72 ?_; intro g9 hg w17 hbox hb; have GE9 := Aside0.mk (show w.heap.size ≤ g9 by rw [hg]; exact below_size (by repeat (first | (with_reducible first | exact HB.out | apply below_alloc | apply pw_below_drewN | apply below_drew1) | exact HB.out))); have N49 := Aside0.mk (show g4 ≠ g9 by rw [hg]; exact Nat.ne_of_lt (blk_lt BK4.out)); have N69 := Aside0.mk (show g6 ≠ g9 by rw [hg]; exact Nat.ne_of_lt (blk_lt BK6.out)); have n0_ := Aside0.mk (Kd.R_below (R_newer HO7.out (Nat.le_of_eq hg.symm)) hb); have n1_ := Aside0.mk (Kd.R_below (R_newer HT.out (Nat.le_of_eq hg.symm)) hb); have n2_ := Aside0.mk (blk_below BK4.out hb); have n3_ := Aside0.mk (blk_below BK6.out hb); replace HB := bs HB hb; have BK9 := Aside0.mk hbox; clear HO7 HT BK4 BK6 hb hbox hg; have HO7 := n0_; have HT := n1_; have BK4 := n2_; have BK6 := n3_; clear n0_ n1_ n2_ n3_) | ((with_reducible refine gate_store (t := 72) (p := 9) rfl ?_); refine wpList_store_row rfl 72 (.tmp 9) (.tmp 28) rfl g9 #[.int .i64 f0, .int .i64 f1, .int .i64 f2] rfl rfl 72 #[.int .i64 0, .int .i64 0, .int .i64 0] BK9.out (by kernel_rfl) rfl (tb_one [f0, f1, f2]) ?_; have n0_ := Aside0.mk (R_row HO7.out (fun k hk => hk.2) #[.int .i64 f0, .int .i64 f1, .int .i64 f2]); have n1_ := Aside0.mk (R_row HT.out (fun k hk => hk.2) #[.int .i64 f0, .int .i64 f1, .int .i64 f2]); have n2_ := Aside0.mk ((setRow_other w17 g9 g4 #[.int .i64 f0, .int .i64 f1, .int .i64 f2] N49.out).trans BK4.out); have n3_ := Aside0.mk ((setRow_other w17 g9 g6 #[.int .i64 f0, .int .i64 f1, .int .i64 f2] N69.out).trans BK6.out); have n4_ := Aside0.mk (setRow_heap _ g9 _ #[.int .i64 f0, .int .i64 f1, .int .i64 f2] _ _ BK9.out); have n5_ := Aside0.mk (below_setRow HB.out GE9.out #[.int .i64 f0, .int .i64 f1, .int .i64 f2]); clear HO7 HT BK4 BK6 BK9 HB; generalize w17.setRow g9 #[.int .i64 f0, .int .i64 f1, .int .i64 f2] = w18 at n0_ n1_ n2_ n3_ n4_ n5_ ⊢; have HO7 := n0_; have HT := n1_; have BK4 := n2_; have BK6 := n3_; have BK9 := n4_; have HB := n5_; clear n0_ n1_ n2_ n3_ n4_ n5_))
              clear k0 k1' k2
              obtain ⟨Ao8, co8, eo8⟩ := Kd.R_slice HO7.out
              subst eo8
              have k0 := bc BK9 0
              have k1' := bc BK9 1
              have k2 := bc BK9 2
              have k3 := (blk_cell BK6.out (f0.toNat * 6 + f1.toNat)).trans (tb_get L (f0.toNat * 6 + f1.toNat) (by have := CB.out; have := HLEN.out; omega))
              have k4 := (blk_cell BK6.out (f1.toNat * 6 + f2.toNat)).trans (tb_get L (f1.toNat * 6 + f2.toNat) (by have := CB.out; have := HLEN.out; omega))
              generalize L.getD (f0.toNat * 6 + f1.toNat) 0 = v1 at k3 A8
              generalize L.getD (f1.toNat * 6 + f2.toNat) 0 = v2 at k4 A8
              have n0_ := Aside0.mk (Kd.R_drew HO7.out)
              have n1_ := Aside0.mk (Kd.R_drew HT.out)
              have n2_ := Aside0.mk (blk_drew BK4.out)
              have n3_ := Aside0.mk (blk_drew BK6.out)
              have n4_ := Aside0.mk (blk_drew BK9.out)
              have n5_ := Aside0.mk (below_drew1 HB.out)
              clear HO7 HT BK4 BK6 BK9 HB
              refine start_ (n := 15) (S := fun w' => w'.cell? ⟨g9, 0, none⟩ = some (.int .i64 f0) ∧ w'.cell? ⟨g9, 1, none⟩ = some (.int .i64 f1) ∧ w'.cell? ⟨g9, 2, none⟩ = some (.int .i64 f2) ∧ w'.cell? ⟨g6, f0.toNat * 6 + f1.toNat, none⟩ = some (.int .i64 v1) ∧ w'.cell? ⟨g6, f1.toNat * 6 + f2.toNat, none⟩ = some (.int .i64 v2)) (ds := []) #[false, false, false, false, false, false, false, false, false, false, false, false, false, false, false] (by kernel_rfl) rfl rfl ⟨k0, k1', k2, k3, k4⟩ (fun hHeld => ?_); refine with_tabW sgn.tab9 sgn.bits9 (fun HT_ HW_ => ?_)
              generalize w18.drew = w19 at n0_ n1_ n2_ n3_ n4_ n5_ hHeld ⊢
              have HO7 := n0_
              have HT := n1_
              have BK4 := n2_
              have BK6 := n3_
              have BK9 := n4_
              have HB := n5_
              clear n0_ n1_ n2_ n3_ n4_ n5_
              refine pu 0 29 HT_ ?_
              refine pu 2 31 HT_ ?_
              refine pu 7 36 HT_ ?_
              refine pu 9 38 HT_ ?_
              refine take_ (i := 1) (N := some 30) (v := ?_) (a' := ?_) #[true, true, true, false, false, false, false, true, false, true, false, false, false, false, false] rfl rfl (take_ofW HT_.out HW_.out (by kernel_rfl)) (fun _ _ _ h => h) (Or.inl ⟨by rfl, ?_⟩) hHeld ?_ ?_
              rotate_left
              · rintro w' ⟨s0, s1, s2, s3, s4⟩
                go_simp
                with_reducible rfl
              rotate_left
              · simp only [Act.put, List.setIfInBounds_toArray, List.set_cons_zero, List.set_cons_succ, i64_w, i32_w]
                rfl
              refine pu 4 33 HT_ ?_
              refine take_ (i := 3) (N := some 32) (v := ?_) (a' := ?_) #[true, true, true, true, true, false, false, true, false, true, false, false, false, false, false] rfl rfl (take_ofW HT_.out HW_.out (by kernel_rfl)) (fun _ _ _ h => h) (Or.inl ⟨by rfl, ?_⟩) hHeld ?_ ?_
              rotate_left
              · rintro w' ⟨s0, s1, s2, s3, s4⟩
                go_simp
                with_reducible rfl
              rotate_left
              · simp only [Act.put, List.setIfInBounds_toArray, List.set_cons_zero, List.set_cons_succ, i64_w, i32_w]
                rfl
              refine pu 5 34 HT_ ?_
              refine take_ (i := 6) (N := some 35) (v := ?_) (a' := ?_) #[true, true, true, true, true, true, true, true, false, true, false, false, false, false, false] rfl rfl (take_ofW HT_.out HW_.out (by kernel_rfl)) (fun _ _ _ h => h) (Or.inl ⟨by rfl, ?_⟩) hHeld ?_ ?_
              rotate_left
              · rintro w' ⟨s0, s1, s2, s3, s4⟩
                go_simp
                with_reducible rfl
              rotate_left
              · simp only [Act.put, List.setIfInBounds_toArray, List.set_cons_zero, List.set_cons_succ, i64_w, i32_w]
                rfl
              refine take_ (i := 8) (N := some 37) (v := ?_) (a' := ?_) #[true, true, true, true, true, true, true, true, true, true, false, false, false, false, false] rfl rfl (take_ofW HT_.out HW_.out (by kernel_rfl)) (fun _ _ _ h => h) (Or.inl ⟨by rfl, ?_⟩) hHeld ?_ ?_
              rotate_left
              · rintro w' ⟨s0, s1, s2, s3, s4⟩
                go_simp
                with_reducible rfl
              rotate_left
              · simp only [Act.put, List.setIfInBounds_toArray, List.set_cons_zero, List.set_cons_succ, i64_w, i32_w]
                rfl
              refine pu 11 40 HT_ ?_
              refine take_ (i := 10) (N := some 39) (v := ?_) (a' := ?_) #[true, true, true, true, true, true, true, true, true, true, true, true, false, false, false] rfl rfl (take_ofW HT_.out HW_.out (by kernel_rfl)) (fun _ _ _ h => h) (Or.inl ⟨by rfl, ?_⟩) hHeld ?_ ?_
              rotate_left
              · rintro w' ⟨s0, s1, s2, s3, s4⟩
                go_simp
                with_reducible rfl
              rotate_left
              · simp only [Act.put, List.setIfInBounds_toArray, List.set_cons_zero, List.set_cons_succ, i64_w, i32_w]
                rfl
              refine pu 12 41 HT_ ?_
              refine take_ (i := 13) (N := some 42) (v := ?_) (a' := ?_) #[true, true, true, true, true, true, true, true, true, true, true, true, true, true, false] rfl rfl (take_ofW HT_.out HW_.out (by kernel_rfl)) (fun _ _ _ h => h) (Or.inl ⟨by rfl, ?_⟩) hHeld ?_ ?_
              rotate_left
              · rintro w' ⟨s0, s1, s2, s3, s4⟩
                go_simp
                with_reducible rfl
              rotate_left
              · simp only [Act.put, List.setIfInBounds_toArray, List.set_cons_zero, List.set_cons_succ, i64_w, i32_w]
                rfl
              refine pu 14 43 HT_ ?_
              refine done_ (done_of HT_.out (by kernel_rfl)) ?_
              obtain ⟨q, hq⟩ : ∃ q : Bool, decide (v1 < v2) = q := ⟨_, rfl⟩
              rw [hq] at A8 ⊢
              clear k0 k1' k2 k3 k4 hHeld
              cases q with
              | true =>
                replace A8 : Aside0 (impl_chi_set.f x f0 f1 f2 1 = some y) := ⟨by have h := A8.out; rw [if_pos rfl] at h; exact h⟩
                have hcz9_0 := bc BK9 0
                have hcz9_1 := bc BK9 1
                have hcz9_2 := bc BK9 2
                go_wp2_with (first | (go_at_call 60; (with_reducible refine (impl_chi_set.calls (fun k_ => some k_ = (.slice Ao8 x.length co8 : Value).ownBlock) (.slice Ao8 x.length co8) x f0 f1 f2 (1) y w _ ?s1 ?s2 ?s3).mono ?_); (case s1 => exact HB.out); (case s2 => exact Kd.R_tight rfl HO7.out); (case s3 => exact A8.out); rintro e w24 ⟨rfl, hy0, hb, hkp⟩; have n0_ := Aside0.mk (Kd.R_mono (Kd.R_reok rfl hy0 (fun k_ e_ => HO7.out.1 k_ e_)) (ok' := fun _ => True) (fun _ _ => trivial)); have n1_ := Aside0.mk (Kd.R_keptB ((Kd.R_apart' HT.out (Kd.R_typed HO7.out) (by decide))) hkp (fun k_ hk_ hs_ => (hk_.2) hs_)); have n2_ := Aside0.mk (blk_kept BK4.out hkp (fun hs_ => (Kd.R_ne HO7.out BK4.out (by decide)) hs_)); have n3_ := Aside0.mk (blk_kept BK6.out hkp (fun hs_ => (Kd.R_ne HO7.out BK6.out (by decide)) hs_)); have n4_ := Aside0.mk hb; clear HO7 HT BK4 BK6 BK9 HB hy0 hb hkp hcz9_0 hcz9_1 hcz9_2; have HO7 := n0_; have HT := n1_; have BK4 := n2_; have BK6 := n3_; have HB := n4_; clear n0_ n1_ n2_ n3_ n4_))
                go_roundg k1
                case measure => have := HK1.out; omega
                case rel => exact ⟨y, _, (by first | rfl | (simp; done)), H', ⟨by have := HK1.out; omega⟩, HO7, ⟨Kd.R_mono HT.out (fun _ _ => trivial)⟩, BK6, BK4, HB⟩
              | false =>
                replace A8 : Aside0 (impl_chi_set.f x f0 f1 f2 (-1) = some y) := ⟨by have h := A8.out; rw [if_neg (by decide)] at h; exact h⟩
                have hcz9_0 := bc BK9 0
                have hcz9_1 := bc BK9 1
                have hcz9_2 := bc BK9 2
                go_wp2_with (first | (go_at_call 60; (with_reducible refine (impl_chi_set.calls (fun k_ => some k_ = (.slice Ao8 x.length co8 : Value).ownBlock) (.slice Ao8 x.length co8) x f0 f1 f2 (-1) y w _ ?s1 ?s2 ?s3).mono ?_); (case s1 => exact HB.out); (case s2 => exact Kd.R_tight rfl HO7.out); (case s3 => exact A8.out); rintro e w24 ⟨rfl, hy0, hb, hkp⟩; have n0_ := Aside0.mk (Kd.R_mono (Kd.R_reok rfl hy0 (fun k_ e_ => HO7.out.1 k_ e_)) (ok' := fun _ => True) (fun _ _ => trivial)); have n1_ := Aside0.mk (Kd.R_keptB ((Kd.R_apart' HT.out (Kd.R_typed HO7.out) (by decide))) hkp (fun k_ hk_ hs_ => (hk_.2) hs_)); have n2_ := Aside0.mk (blk_kept BK4.out hkp (fun hs_ => (Kd.R_ne HO7.out BK4.out (by decide)) hs_)); have n3_ := Aside0.mk (blk_kept BK6.out hkp (fun hs_ => (Kd.R_ne HO7.out BK6.out (by decide)) hs_)); have n4_ := Aside0.mk hb; clear HO7 HT BK4 BK6 BK9 HB hy0 hb hkp hcz9_0 hcz9_1 hcz9_2; have HO7 := n0_; have HT := n1_; have BK4 := n2_; have BK6 := n3_; have HB := n4_; clear n0_ n1_ n2_ n3_ n4_))
                go_roundg k1
                case measure => have := HK1.out; omega
                case rel => exact ⟨y, _, (by first | rfl | (simp; done)), H', ⟨by have := HK1.out; omega⟩, HO7, ⟨Kd.R_mono HT.out (fun _ _ => trivial)⟩, BK6, BK4, HB⟩
            · rw [if_neg cb] at H
              exact absurd H (by simp)
          · rw [if_neg c11] at H
            exact absurd H (by simp)
        · rw [if_neg c10] at H
          have c10b : decide (i < (ts.length : Int)) = false := decide_eq_false c10
          have c10c := eq_false c10
          obtain rfl := Option.some.inj H
          clear H c10
          obtain ⟨Ao8, co8, eo8⟩ := Kd.R_slice HO7.out
          subst eo8
          have hcz4_0 := bc BK4 0
          have hcz4_1 := bc BK4 1
          have hfz4_0 := bf BK4 0
          have hfz4_1 := bf BK4 1
          go_wp2_with (first | ((with_reducible refine gate_callee (f := 61) rfl ?_); refine goesL_ (some 55) rfl rfl Try.func61 (by kernel_rfl) rfl #[.pointer Ao8] rfl (by (try simp only [List.map_toArray, List.map_cons, List.map_nil]); first | done | rfl | (simp only [List.length_drop, List.length_take]; rfl)) ?_; (with_reducible refine (impl_chi_signs.calls k Ao8 co8 x s1 s2 _ ?s1 ?s2 ?s3).mono ?_); (case s1 => exact (Kd.R_reads' HO7.out).2.2); (case s2 => exact (Kd.R_reads' HO7.out).2.1); (case s3 => exact A7.out); rintro e w20 ⟨rfl, hb⟩; refine ⟨_, rfl, ?_⟩; have n0_ := Aside0.mk (blk_below BK4.out hb); replace HB := bs HB hb; clear BK4 hb hcz4_0 hcz4_1 hfz4_0 hfz4_1; have BK4 := n0_; clear n0_) | ((with_reducible refine gate_store (t := 28) (p := 4) rfl ?_); refine wpList_store_row rfl 28 (.tmp 4) (.tmp 55) rfl g4 #[.int .i64 s1, .string s2] rfl rfl 28 _ BK4.out (by kernel_rfl) rfl (by simp [Value.oneCell']) ?_; have n0_ := Aside0.mk (setRow_heap _ g4 _ #[.int .i64 s1, .string s2] _ _ BK4.out); have n2_ := Aside0.mk (below_setRow HB.out GE4.out #[.int .i64 s1, .string s2]); clear BK4 HB; generalize w20.setRow g4 #[.int .i64 s1, .string s2] = w21 at n0_ n2_ ⊢; have BK4 := n0_; have HB := n2_; clear n0_ n2_))
          refine bodyPost_ret (results_row_tmp rfl _ _ g4 28 _ (0, 0) _ rfl BK4.out Try.underlying28 rfl (by kernel_rfl)) rfl ?_
          exact ⟨rfl, HB.out⟩

end Go.Proofs.Ythibphndihjcaaa.P
