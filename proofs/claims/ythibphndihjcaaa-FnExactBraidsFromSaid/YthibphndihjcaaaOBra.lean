/- impl.chi.braids and impl.BraidsFrom: what a call of them computes. Conditions: the table has the size of its struct; no two of the wirings found are equal. -/
import Derived.Test.YthibphndihjcaaaWAll2
import Derived.Test.YthibphndihjcaaaOSortF
import Derived.Test.YthibphndihjcaaaOWsg
import Derived.Test.YthibphndihjcaaaOSigns
import Derived.Test.YthibphndihjcaaaP59
import Derived.Test.YthibphndihjcaaaP84
namespace Go.Proofs.Ythibphndihjcaaa.P
open Go.RowKit Go.Proofs.YthibphndihjcaaaW.PrintWords Go.Proofs.YthibphndihjcaaaW.PrintLast Go.Proofs.YthibphndihjcaaaW.PrintMore
attribute [local go_sem] Go.Proofs.Try.underlying65 Go.Proofs.Try.underlying66 Go.Proofs.Try.underlying67 Go.Proofs.Try.underlying69
set_option linter.unusedVariables false
set_option linter.unusedSimpArgs false

/-- The row that a table gives. -/
def braAdd (out : List (List Int)) (q : Option (List Int)) : List (List Int) := match q with | some v => out ++ [v] | none => out
def braOk (y : List Int) (n : Nat) : Prop := y.length = 344 ∧ rd y 0 = (n : Int)
instance (y : List Int) (n : Nat) : Decidable (braOk y n) := by unfold braOk; infer_instance
def impl_chi_braids.l0 : Nat → List Int → Nat → List Int → Nat → List S72 → List (List Int) → Int → Option (List (List Int))
  | 0, _, _, _, _, _, _, _ => none
  | k + 1, T, n, ws, m, ts, out, i => if i < (ts.length : Int) then (if 0 ≤ i then (if 0 ≤ (rd_T72 ts i).f0 ∧ (rd_T72 ts i).f0 < 7 ∧ 0 ≤ (rd_T72 ts i).f1 ∧ (rd_T72 ts i).f1 < 7 ∧ 0 ≤ (rd_T72 ts i).f2 ∧ (rd_T72 ts i).f2 < 7 ∧ out.length < 1000 then ((impl_chi_set.f T (rd_T72 ts i).f0 (rd_T72 ts i).f1 (rd_T72 ts i).f2 (wrap64 (-(rd T (cidx (rd_T72 ts i).f0 (rd_T72 ts i).f1 (rd_T72 ts i).f2))))).bind fun y => if braOk y n then impl_chi_braids.l0 k T n ws m ts (braAdd out (wgRun y n m ws (List.replicate 36 false) [])) (wrap64 (i + 1)) else none) else none) else none) else some out
def braC (T ws : List Int) (n m : Nat) : Prop := T.length = 344 ∧ rd T 0 = (n : Int) ∧ 3 ≤ n ∧ n ≤ 6 ∧ ws.length = n ∧ (∀ x ∈ ws, 0 ≤ x ∧ x < 6) ∧ Int.tdiv (wrap64 ((n : Int) * wrap64 ((n : Int) - 1))) 2 = (m : Int) ∧ m ≤ 100
instance (T ws : List Int) (n m : Nat) : Decidable (braC T ws n m) := by unfold braC; infer_instance
def braR (rows : List (List Int)) : Prop := rows.length < 1000000 ∧ (∀ r ∈ rows, r.length < 1099511627776) ∧ ∀ i, i < (lsrt rows).length - 1 → (lsrt rows).getD (i + 1) [] ≠ (lsrt rows).getD i []
instance (rows : List (List Int)) : Decidable (braR rows) := by unfold braR; infer_instance
def impl_chi_braids.f (k : Nat) (T : List Int) : Option (List (List Int)) := (impl_triplesOf.f k (rd T 0)).bind fun ts => (impl_upTo.f k (rd T 0)).bind fun ws => if braC T ws (rd T 0).toNat ((rd T 0).toNat * ((rd T 0).toNat - 1) / 2) then ((impl_chi_braids.l0 k T (rd T 0).toNat ws ((rd T 0).toNat * ((rd T 0).toNat - 1) / 2) ts [] 0).bind fun rows => if braR rows then some (lsrt rows) else none) else none
theorem impl_chi_braids.mono_l : ∀ k, (∀ y0 y1 y2 y3 y4 y5 y6, LeO (impl_chi_braids.l0 k y0 y1 y2 y3 y4 y5 y6) (impl_chi_braids.l0 (k + 1) y0 y1 y2 y3 y4 y5 y6))
  | 0 => fun _ _ _ _ _ _ _ r h => by simp [impl_chi_braids.l0] at h
  | k + 1 => by
    have ih0 := impl_chi_braids.mono_l k
    intro y0 y1 y2 y3 y4 y5 y6
    unfold impl_chi_braids.l0
    repeat' first
      | (with_reducible exact ih0 _ _ _ _ _ _ _)
      | (with_reducible exact LeO.refl _)
      | (with_reducible refine LeO.ite ?_ ?_)
      | (with_reducible refine LeO.bind ?_ (fun _ => ?_))
theorem impl_chi_braids.mono : ∀ a0 k, LeO (impl_chi_braids.f k a0) (impl_chi_braids.f (k + 1) a0) := by
  intro a0 k
  unfold impl_chi_braids.f
  refine LeO.bind (impl_triplesOf.mono _ _) (fun _ => LeO.bind (impl_upTo.mono _ _) (fun _ => LeO.ite ?_ (LeO.refl _)))
  exact LeO.bind (impl_chi_braids.mono_l k _ _ _ _ _ _ _) (fun _ => LeO.refl _)
/-- A struct of numbers that is read, loaded whole. -/
theorem wpList_load_cells {P : Program} {ops : Array Oper} {rest : List Oper} {o : Oper} {a : Act} {w : World} {Q : Exit → Act → World → Prop} (hgd : o.guard = none) (ty : TypeId) (x : Operand) (ho : o.op = .load ty x)
    (A : Option Addr) (T : List Int) (hx : a.eval x = .pointer A) (hp : 0 < T.length) (hC : Kd.C (Kd.int .i64) w A T.length T) (d : TypeDesc)
    (hu : P.underlying ty = some d) (hd : (match d with | .struct _ | .array _ _ => true | _ => false) = true) (hi : (P.info? ty).map (·.size) = some T.length)
    (h : wpList P ops Q rest (a.put o.dst (.agg (tb T))) w) : wpList P ops Q (o :: rest) a w := by
  obtain ⟨ad, rfl, hc⟩ := hC.2.2 hp
  have hl : (loadCells ad (T.map (Value.int .i64)).length).run P w = .ok (T.map (Value.int .i64)).toArray w :=
    run_loadCells_list (P := P) w ad (T.map (Value.int .i64)) (fun j v hv => by
      rw [List.getElem?_map] at hv
      obtain ⟨y, hy, rfl⟩ := Option.map_eq_some_iff.mp hv
      obtain ⟨c, hc1, hc2, hc3⟩ := hc j y hy
      have hc2' : c = [Value.int .i64 y] := hc2
      have := hc3 0 (.int .i64 y) (by rw [hc2']; rfl)
      have e : j * (Kd.int .i64).sz + 0 = j := Nat.mul_one j
      rw [e] at this
      exact this)
  rw [List.length_map] at hl
  refine wpList_plain hgd fun _ hK => ?_
  unfold Oper.wp execOp
  cases hq : P.info? ty with
  | none => simp [hq] at hi
  | some i =>
    have hs : i.size = T.length := by simpa [hq] using hi
    have hagg : (isAgg ty).run P w = .ok true w := by
      unfold isAgg
      rw [Sem.run_bind, run_underlying hu w]
      cases d <;> simp_all
    have hlv : (loadVar ty ad).run P w = .ok (.agg (tb T)) w := by
      simp [loadVar, Sem.run_bind, hagg, sizeOf, typeInfo, hq, hs, hl, tb]
    simp only [ho, hx, Instr.loadAt, Instr.sureAddr, Sem.run_bind, Sem.run_pure, Result.andThen_ok, hlv]
    exact hK _ _ h
theorem R_of_block {w : World} {base g : Nat} {T : List Int} {t : TypeId} (hb : w.heap[g]? = some (.cells (tb T) t (0, 0))) (hg : base ≤ g) (hm : T.length ≤ 1000000) : Kd.R (Kd.int .i64) t w base (fun k => k = g) (.slice (some ⟨g, 0, none⟩) T.length T.length) T := by
  refine Kd.R_of_own (enc := Value.int .i64) (h1 := fun _ => rfl) ⟨by unfold encs; rw [List.length_map, Nat.mul_one], .inr ⟨g, T.length, tb T, rfl, hg, hb, Nat.le_refl _, Nat.le_trans hm (by decide), by rw [tb_size, Nat.mul_one], ?_⟩⟩ (fun k hk => ?_)
  · rw [Nat.mul_one]
    unfold tb encs
    rw [List.toList_toArray, List.take_of_length_le (by rw [List.length_map]; exact Nat.le_refl _)]
  · have : some g = some k := hk
    exact (Option.some.inj this).symm
theorem bra_wiring (k : Nat) (A0 : Option Addr) (l : List Int) (n : Nat) (ws0 : List Int) (m : Nat) (q : Option (List Int)) (w : World) (hC : Kd.C (Kd.int .i64) w A0 l.length l) (hok : braOk l n) (hup : impl_upTo.f k (n : Int) = some ws0) (T : List Int) (hc : braC T ws0 n m) (hq : wgRun l n m ws0 (List.replicate 36 false) [] = q) :
    Calls Try.prog 69 #[.pointer A0] w fun e w' => ∃ v, e = .returned (.tuple #[v, .bool q.isSome]) ∧ Kd.R (Kd.int .i64) 3 w' w.heap.size (fun _ => True) v (q.getD []) ∧ Below w.heap.size w w' := by
  subst hq
  obtain ⟨_, _, h3, h6, hw0, hw1, hm, hm2⟩ := hc
  exact impl_chi_wiring.calls k A0 l n ws0 m w hC (by rw [hok.1]; exact Nat.le_refl _) hok.2 h3 h6 hup hw0 hw1 hm hm2
def bra.T6 : Bool × List (List Nat × List Nat) := (true, [([], []), ([0], [0]), ([], []), ([2], [2]), ([], []), ([4], [4]), ([], []), ([], []), ([7], [7]), ([], []), ([9], [9]), ([], []), ([11], [11]), ([6], [6]), ([13], [13]), ([14, 8], [8, 14]), ([15, 10], [10, 15]), ([16, 12], [12, 16]), ([17], [17]), ([18], [18]), ([1, 3, 5, 19], [1, 3, 5, 19])])
def bra.B6 : List Nat := [0, 1, 0, 4, 0, 16, 0, 0, 128, 0, 512, 0, 2048, 64, 8256, 25024, 59328, 131008, 262080, 524224, 1048575]
theorem bra.tab6 : rtab .any (opsOf Try.f75 6) = bra.T6 := by kernel_rfl
theorem bra.bits6 : waitsOk bra.T6.2 bra.B6 = true := by kernel_rfl
set_option maxHeartbeats 16000000 in
set_option maxRecDepth 100000 in
theorem impl_chi_braids.calls (k : Nat) (A0 : Option Addr) (T : List Int) (r : List (List Int)) (w : World) (hC : Kd.C (Kd.int .i64) w A0 T.length T) (h : impl_chi_braids.f k T = some r) :
    Calls Try.prog 75 #[.pointer A0] w fun e w' => ∃ v : Value, e = .returned v ∧ Kd.S (Kd.slice 3 (Kd.int .i64)) 22 w' w.heap.size (fun _ => True) v r ∧ Below w.heap.size w w' := by
  have hu72 := Try.underlying72
  unfold impl_chi_braids.f at h
  obtain ⟨ts, A20, h⟩ := Option.bind_eq_some_iff.mp h
  obtain ⟨ws, A30, h⟩ := Option.bind_eq_some_iff.mp h
  obtain ⟨n, hn⟩ : ∃ n, n = (rd T 0).toNat := ⟨_, rfl⟩
  obtain ⟨m, hm⟩ : ∃ m, m = n * (n - 1) / 2 := ⟨_, rfl⟩
  rw [← hn, ← hm] at h
  by_cases hc : braC T ws n m
  case neg => rw [if_neg hc] at h; exact absurd h (by simp)
  rw [if_pos hc] at h
  obtain ⟨rows, H0, h⟩ := Option.bind_eq_some_iff.mp h
  by_cases hr : braR rows
  case neg => rw [if_neg hr] at h; exact absurd h (by simp)
  rw [if_pos hr] at h
  obtain rfl := Option.some.inj h
  have A2 := Aside0.mk A20
  have A3 := Aside0.mk (show impl_upTo.f k (n : Int) = some ws by rw [← hc.2.1]; exact A30)
  have CC := Aside0.mk hc
  have HR : Aside0 (rows.length < 1000000 ∧ (∀ r ∈ rows, r.length < 1099511627776) ∧ ∀ i, i < (lsrt rows).length - 1 → (lsrt rows).getD (i + 1) [] ≠ (lsrt rows).getD i []) := ⟨hr⟩
  have H' := Aside0.mk H0
  obtain ⟨ad, eA, hcell⟩ := Kd.at_int hC 0 (by omega) (by rw [hc.1]; omega)
  cases eA
  have HC := Aside0.mk hC
  have hcell0 : w.cell? ad = some (.int .i64 (rd T 0)) := hcell
  clear A20 A30 hn hm hc H0 hr h hcell hC
  have hcell1 : w.cell? (ad.add 0) = some (.int .i64 (rd T 0)) := hcell0
  go_enter Try.func75, Try.ntmps75
  go_wp2_with (first | ((with_reducible refine gate_callee (f := 59) rfl ?_); refine goesL_ (some 13) rfl rfl Try.func59 (by kernel_rfl) rfl #[.int .i64 (rd T 0)] rfl (by (try simp only [List.map_toArray, List.map_cons, List.map_nil]); first | done | rfl | (simp only [List.length_drop, List.length_take]; rfl)) ?_; (with_reducible refine (impl_triplesOf.calls k (rd T 0) ts _ A2.out).mono ?_); rintro e w4 ⟨v4, rfl, ho, hb⟩; refine ⟨_, rfl, ?_⟩; have HT := Aside0.mk ho; have HB := Aside0.mk hb; clear ho hb; obtain ⟨Ao9, co9, eo9⟩ := Kd.R_slice HT.out; subst eo9))
  go_loopg [3, 15] k (fun kq v3 v15 w' => ∃ (out : List (List Int)) (i : Int), v15 = .int .i64 i ∧ Aside0 (impl_chi_braids.l0 kq T n ws m ts out i = some rows) ∧ Aside0 (kq ≤ k) ∧ Aside0 (Kd.S (Kd.slice 3 (Kd.int .i64)) 22 w' w4.heap.size (fun _ => True) v3 out) ∧ Aside0 (Below w4.heap.size w4 w'))
  case atStart => exact ⟨[], 0, rfl, H', ⟨Nat.le_refl _⟩, ⟨Kd.S_nil _ _ _ _ _⟩, ⟨Below.refl _ _⟩⟩
  case round =>
    clear H'
    obtain ⟨out, i, rfl, HA, HK1, HS, HBL⟩ := hrel
    cases gk with
    | zero => exact absurd HA.out (by simp [impl_chi_braids.l0])
    | succ k1 =>
      have H := HA.out
      clear HA
      simp only [impl_chi_braids.l0] at H
      by_cases c10 : i < (ts.length : Int)
      case neg =>
        rw [if_neg c10] at H
        have c10b : decide (i < (ts.length : Int)) = false := decide_eq_false c10
        obtain rfl := Option.some.inj H
        clear H c10
        go_wp2_with (first | (go_at_call 90; (with_reducible refine (slices_SortFunc.calls u3 _ w4 _ (fun _ => True) HBL.out HS.out ⟨Nat.lt_of_lt_of_le HR.out.1 (Nat.le_of_ble_eq_true rfl), HR.out.2.1⟩).mono ?_); rintro e w12 ⟨rfl, ho, hb, _⟩; have HS2 := Aside0.mk ho; have HB2 := Aside0.mk hb; clear ho hb) | (go_at_call 92; (with_reducible refine (slices_CompactFunc.calls u3 (lsrt _) w4.heap.size _ (fun _ => True) HS2.out ⟨by rw [lsrt_len]; exact HR.out.1, fun r hr => HR.out.2.1 r ((lsrt_perm _).mem_iff.mp hr)⟩ (fun i hi => HR.out.2.2 i (by omega))).mono ?_); rintro e w13 ⟨rfl, hb⟩; have HS3 := Aside0.mk (Kd.S_below HS2.out hb); have HB3 := Aside0.mk (below_then HB2.out (below_size HB2.out) hb); clear hb))
        go_ret
        exact ⟨_, rfl, Kd.S_lower HS3.out (below_size HB.out), below_then HB.out (below_size HB.out) HB3.out⟩
      case pos =>
        rw [if_pos c10] at H
        have c10b : decide (i < (ts.length : Int)) = true := decide_eq_true c10
        by_cases c11 : 0 ≤ i
        case neg => rw [if_neg c11] at H; exact absurd H (by simp)
        rw [if_pos c11] at H
        obtain ⟨ad5, e5, k0, k1', k2⟩ := at_T72 (Kd.R_reads' (Kd.R_below HT.out HBL.out)).2.2 i c11 c10
        cases e5
        replace c10 := eq_true c10
        replace c11 := eq_true c11
        generalize rd_T72 ts i = TT at H k0 k1' k2
        obtain ⟨f0, f1, f2⟩ := TT
        simp only at H k0 k1' k2
        by_cases cb : 0 ≤ f0 ∧ f0 < 7 ∧ 0 ≤ f1 ∧ f1 < 7 ∧ 0 ≤ f2 ∧ f2 < 7 ∧ out.length < 1000
        case neg => rw [if_neg cb] at H; exact absurd H (by simp)
        rw [if_pos cb] at H
        obtain ⟨y, A80, H⟩ := Option.bind_eq_some_iff.mp H
        by_cases hy : braOk y n
        case neg => rw [if_neg hy] at H; exact absurd H (by simp)
        rw [if_pos hy] at H
        obtain ⟨q, hq⟩ : ∃ q, wgRun y n m ws (List.replicate 36 false) [] = q := ⟨_, rfl⟩
        rw [hq] at H
        have HQ := Aside0.mk hq
        have H' := Aside0.mk H
        clear hq H
        obtain ⟨ad2, e2, hat⟩ := Kd.at_int HC.out (cidx f0 f1 f2) (cidx_nonneg _ _ _) (cidx_lt cb.2.1 cb.2.2.2.1 cb.2.2.2.2.2.1 (by have := CC.out.1; omega))
        cases e2
        rw [chi_add] at hat
        obtain ⟨nv, hnv⟩ : ∃ z, wrap64 (-(rd T (cidx f0 f1 f2))) = z := ⟨_, rfl⟩
        rw [hnv] at A80
        generalize rd T (cidx f0 f1 f2) = v at hat hnv
        have hnw : IntKind.i64.wrap (-v) = nv := (i64_w _).trans hnv
        have A8 := Aside0.mk A80
        have HOK := Aside0.mk hy
        have HOL := Aside0.mk cb.2.2.2.2.2.2
        obtain ⟨b0, b1, b2, b3, b4, b5, _⟩ := cb
        replace b0 := eq_true b0
        replace b1 := eq_true b1
        replace b2 := eq_true b2
        replace b3 := eq_true b3
        replace b4 := eq_true b4
        replace b5 := eq_true b5
        have HAT := Aside0.mk hat
        have HAB := Aside0.mk (World.block_lt_of_cell? w ⟨ad.block, ad.off + 1 + f0.toNat * 49 + f1.toNat * 7 + f2.toNat, none⟩ hat)
        clear A80 hy hat
        go_wp2_with (first | ((with_reducible refine gate_dst (N := 5) rfl ?_); refine bx 5 #[.int .i64 0, .int .i64 0, .int .i64 0] 72 ?_; intro g5 hg w5 hbox hb; have GE5 := Aside0.mk (show wr.heap.size ≤ g5 by rw [hg]; exact Nat.le_refl _); have BK5 := Aside0.mk hbox; have HBr := Aside0.mk hb; clear hb hbox hg) | ((with_reducible refine gate_store (t := 72) (p := 5) rfl ?_); refine wpList_store_row rfl 72 (.tmp 5) (.tmp 18) rfl g5 #[.int .i64 f0, .int .i64 f1, .int .i64 f2] rfl rfl 72 #[.int .i64 0, .int .i64 0, .int .i64 0] BK5.out (by kernel_rfl) rfl (tb_one [f0, f1, f2]) ?_; have n0_ := Aside0.mk (setRow_heap _ g5 _ #[.int .i64 f0, .int .i64 f1, .int .i64 f2] _ _ BK5.out); have n1_ := Aside0.mk (below_setRow HBr.out GE5.out #[.int .i64 f0, .int .i64 f1, .int .i64 f2]); clear BK5 HBr; generalize w5.setRow g5 #[.int .i64 f0, .int .i64 f1, .int .i64 f2] = w6 at n0_ n1_ ⊢; have BK5 := n0_; have HBr := n1_; clear n0_ n1_) | ((with_reducible refine gate_dst (N := 21) rfl ?_); refine wpList_load_cells rfl 69 (.tmp 20) rfl (some ad) T rfl (by have := CC.out.1; omega) (Kd.C_below HC.out (below_then (below_then HB.out (below_size HB.out) HBL.out) (Nat.le_trans (below_size HB.out) (below_size HBL.out)) HBr.out)) _ Try.underlying69 rfl (by rw [CC.out.1]; kernel_rfl) ?_) | ((with_reducible refine gate_dst (N := 6) rfl ?_); refine bx 6 (tb (List.replicate 344 0)) 69 ?_; intro g6 hg w7 hbox hb; have GE6 := Aside0.mk (show wr.heap.size ≤ g6 by rw [hg]; exact below_size HBr.out); have NE := Aside0.mk (show g5 ≠ g6 by rw [hg]; exact Nat.ne_of_lt (blk_lt BK5.out)); have BK6 := Aside0.mk hbox; have n0_ := Aside0.mk (blk_below BK5.out hb); have n1_ := Aside0.mk (below_then HBr.out (below_size HBr.out) hb); clear BK5 HBr; have BK5 := n0_; have HBr := n1_; clear n0_ n1_ hb hbox hg) | ((with_reducible refine gate_store (t := 69) (p := 6) rfl ?_); refine wpList_store_row rfl 69 (.tmp 6) (.tmp 21) rfl g6 (tb T) rfl rfl 69 (tb (List.replicate 344 0)) BK6.out (by rw [tb_size, CC.out.1]; kernel_rfl) (by rw [tb_size, tb_size, CC.out.1]; rfl) (tb_one T) ?_; have n0_ := Aside0.mk (setRow_heap _ g6 _ (tb T) _ _ BK6.out); have n1_ := Aside0.mk ((setRow_other w7 g6 g5 (tb T) NE.out).trans BK5.out); have n2_ := Aside0.mk (below_setRow HBr.out GE6.out (tb T)); clear BK6 BK5 HBr; generalize w7.setRow g6 (tb T) = w8 at n0_ n1_ n2_ ⊢; have BK6 := n0_; have BK5 := n1_; have HBr := n2_; clear n0_ n1_ n2_))
        clear k0 k1' k2
        have k0 := bc BK5 0
        have k1' := bc BK5 1
        have k2 := bc BK5 2
        have k3 : w8.cell? ⟨ad.block, ad.off + 1 + f0.toNat * 49 + f1.toNat * 7 + f2.toNat, none⟩ = some (.int .i64 v) := ((below_then (below_then HB.out (below_size HB.out) HBL.out) (Nat.le_trans (below_size HB.out) (below_size HBL.out)) HBr.out).cell (p := ⟨ad.block, ad.off + 1 + f0.toNat * 49 + f1.toNat * 7 + f2.toNat, none⟩) HAB.out).trans HAT.out
        have n0_ := Aside0.mk (blk_drew BK5.out)
        have n1_ := Aside0.mk (blk_drew BK6.out)
        have n2_ := Aside0.mk (below_drew1 HBr.out)
        clear BK5 BK6 HBr
        refine start_ (n := 21) (S := fun w' => w'.cell? ⟨g5, 0, none⟩ = some (.int .i64 f0) ∧ w'.cell? ⟨g5, 1, none⟩ = some (.int .i64 f1) ∧ w'.cell? ⟨g5, 2, none⟩ = some (.int .i64 f2) ∧ w'.cell? ⟨ad.block, ad.off + 1 + f0.toNat * 49 + f1.toNat * 7 + f2.toNat, none⟩ = some (.int .i64 v)) (ds := []) #[false, false, false, false, false, false, false, false, false, false, false, false, false, false, false, false, false, false, false, false, false] (by kernel_rfl) rfl rfl ⟨k0, k1', k2, k3⟩ (fun hHeld => ?_); refine with_tabW bra.tab6 bra.bits6 (fun HT_ HW_ => ?_)
        generalize w8.drew = w9 at n0_ n1_ n2_ hHeld ⊢
        have BK5 := n0_
        have BK6 := n1_
        have HBr := n2_
        clear n0_ n1_ n2_
        refine pu 0 22 HT_ ?_
        refine pu 2 24 HT_ ?_
        refine pu 4 26 HT_ ?_
        refine pu 6 28 HT_ ?_
        refine pu 7 29 HT_ ?_
        refine pu 9 31 HT_ ?_
        refine pu 11 33 HT_ ?_
        refine pu 13 35 HT_ ?_
        refine pu 14 36 HT_ ?_
        refine take_ (i := 1) (N := some 23) (v := ?_) (a' := ?_) #[true, true, true, false, true, false, true, true, false, true, false, true, false, true, true, false, false, false, false, false, false] rfl rfl (take_ofW HT_.out HW_.out (by kernel_rfl)) (fun _ _ _ h => h) (Or.inl ⟨by rfl, ?_⟩) hHeld ?_ ?_
        rotate_left
        · rintro w' ⟨s0, s1, s2, s3⟩
          go_simp
          with_reducible rfl
        rotate_left
        · simp only [Act.put, List.setIfInBounds_toArray, List.set_cons_zero, List.set_cons_succ, i64_w, i32_w]
          rfl
        refine take_ (i := 3) (N := some 25) (v := ?_) (a' := ?_) #[true, true, true, true, true, false, true, true, false, true, false, true, false, true, true, false, false, false, false, false, false] rfl rfl (take_ofW HT_.out HW_.out (by kernel_rfl)) (fun _ _ _ h => h) (Or.inl ⟨by rfl, ?_⟩) hHeld ?_ ?_
        rotate_left
        · rintro w' ⟨s0, s1, s2, s3⟩
          go_simp
          with_reducible rfl
        rotate_left
        · simp only [Act.put, List.setIfInBounds_toArray, List.set_cons_zero, List.set_cons_succ, i64_w, i32_w]
          rfl
        refine take_ (i := 5) (N := some 27) (v := ?_) (a' := ?_) #[true, true, true, true, true, true, true, true, false, true, false, true, false, true, true, false, false, false, false, false, false] rfl rfl (take_ofW HT_.out HW_.out (by kernel_rfl)) (fun _ _ _ h => h) (Or.inl ⟨by rfl, ?_⟩) hHeld ?_ ?_
        rotate_left
        · rintro w' ⟨s0, s1, s2, s3⟩
          go_simp
          with_reducible rfl
        rotate_left
        · simp only [Act.put, List.setIfInBounds_toArray, List.set_cons_zero, List.set_cons_succ, i64_w, i32_w]
          rfl
        refine take_ (i := 8) (N := some 30) (v := ?_) (a' := ?_) #[true, true, true, true, true, true, true, true, true, true, false, true, false, true, true, false, false, false, false, false, false] rfl rfl (take_ofW HT_.out HW_.out (by kernel_rfl)) (fun _ _ _ h => h) (Or.inl ⟨by rfl, ?_⟩) hHeld ?_ ?_
        rotate_left
        · rintro w' ⟨s0, s1, s2, s3⟩
          go_simp
          with_reducible rfl
        rotate_left
        · simp only [Act.put, List.setIfInBounds_toArray, List.set_cons_zero, List.set_cons_succ, i64_w, i32_w]
          rfl
        refine pu 15 37 HT_ ?_
        refine take_ (i := 10) (N := some 32) (v := ?_) (a' := ?_) #[true, true, true, true, true, true, true, true, true, true, true, true, false, true, true, true, false, false, false, false, false] rfl rfl (take_ofW HT_.out HW_.out (by kernel_rfl)) (fun _ _ _ h => h) (Or.inl ⟨by rfl, ?_⟩) hHeld ?_ ?_
        rotate_left
        · rintro w' ⟨s0, s1, s2, s3⟩
          go_simp
          with_reducible rfl
        rotate_left
        · simp only [Act.put, List.setIfInBounds_toArray, List.set_cons_zero, List.set_cons_succ, i64_w, i32_w]
          rfl
        refine pu 16 38 HT_ ?_
        refine take_ (i := 12) (N := some 34) (v := ?_) (a' := ?_) #[true, true, true, true, true, true, true, true, true, true, true, true, true, true, true, true, true, false, false, false, false] rfl rfl (take_ofW HT_.out HW_.out (by kernel_rfl)) (fun _ _ _ h => h) (Or.inl ⟨by rfl, ?_⟩) hHeld ?_ ?_
        rotate_left
        · rintro w' ⟨s0, s1, s2, s3⟩
          go_simp
          with_reducible rfl
        rotate_left
        · simp only [Act.put, List.setIfInBounds_toArray, List.set_cons_zero, List.set_cons_succ, i64_w, i32_w]
          rfl
        refine pu 17 39 HT_ ?_
        refine take_ (i := 18) (N := some 40) (v := ?_) (a' := ?_) #[true, true, true, true, true, true, true, true, true, true, true, true, true, true, true, true, true, true, true, false, false] rfl rfl (take_ofW HT_.out HW_.out (by kernel_rfl)) (fun _ _ _ h => h) (Or.inl ⟨by rfl, ?_⟩) hHeld ?_ ?_
        rotate_left
        · rintro w' ⟨s0, s1, s2, s3⟩
          go_simp
          with_reducible rfl
        rotate_left
        · simp only [Act.put, List.setIfInBounds_toArray, List.set_cons_zero, List.set_cons_succ, i64_w, i32_w]
          rfl
        refine pu 19 41 HT_ ?_
        refine one_ (i := 20) (N := some 42) #[true, true, true, true, true, true, true, true, true, true, true, true, true, true, true, true, true, true, true, true, true] rfl rfl (one_of HT_.out (by kernel_rfl)) (by decide) (fun K hK => ?_)
        refine goes_ Try.func60 (by kernel_rfl) rfl #[.pointer (some ⟨g6, 0, none⟩), .int .i64 f0, .int .i64 f1, .int .i64 f2, .int .i64 nv] (by rfl) rfl rfl (by (try simp only [List.map_toArray, List.map_cons, List.map_nil]); first | done | rfl) ?_
        refine (impl_chi_set.calls (fun k_ => k_ = g6) (.slice (some ⟨g6, 0, none⟩) T.length T.length) T f0 f1 f2 nv y wr _ HBr.out (R_of_block BK6.out GE6.out (by have := CC.out.1; omega)) A8.out).mono ?_
        rintro e w10 ⟨rfl, hy0, hb, hkp⟩
        refine ⟨_, rfl, ?_⟩
        have BK5' := Aside0.mk (blk_kept BK5.out hkp (fun hs_ => NE.out hs_))
        have k3' : w10.cell? ⟨ad.block, ad.off + 1 + f0.toNat * 49 + f1.toNat * 7 + f2.toNat, none⟩ = some (.int .i64 v) := ((below_then (below_then HB.out (below_size HB.out) HBL.out) (Nat.le_trans (below_size HB.out) (below_size HBL.out)) hb).cell (p := ⟨ad.block, ad.off + 1 + f0.toNat * 49 + f1.toNat * 7 + f2.toNat, none⟩) HAB.out).trans HAT.out
        refine hK.out _ _ ⟨bc BK5' 0, bc BK5' 1, bc BK5' 2, k3'⟩ (fun hHeld => ?_)
        clear hK K
        refine norm_ (a' := ?_) ?_ ?_
        rotate_left
        · show Act.put _ (some 42) _ = _
          simp only [Act.put, List.setIfInBounds_toArray, List.set_cons_zero, List.set_cons_succ, i64_w, i32_w]
          rfl
        refine done_ (done_of HT_.out (by kernel_rfl)) ?_
        have hyr := Kd.R_reads' hy0
        have HY := Aside0.mk (And.intro (show Kd.C (Kd.int .i64) w10 (some ⟨g6, 0, none⟩) y.length y from hyr.1 ▸ hyr.2.2) HOK.out)
        have n0_ := Aside0.mk hb
        clear k0 k1' k2 k3 k3' hHeld hyr hy0 hkp hb HBr BK5 BK6 BK5'
        have HBr := n0_
        clear n0_
        cases q with
        | none =>
          go_wp2_with (first | (go_at_call 69; (with_reducible refine (bra_wiring k (some ⟨g6, 0, none⟩) y n ws m _ _ HY.out.1 HY.out.2 A3.out T CC.out HQ.out).mono ?_); rintro e w11 ⟨v11, rfl, hR, hb⟩; have H11 := Aside0.mk hR; have n0_ := Aside0.mk (below_then HBr.out (below_size HBr.out) hb); have L11 := Aside0.mk (below_size HBr.out); clear HBr hb hR; have HBr := n0_; clear n0_))
          go_roundg k1
          case measure => have := HK1.out; omega
          case rel => exact ⟨out, _, by first | rfl | (simp; done), H', ⟨by have := HK1.out; omega⟩, ⟨Kd.S_below HS.out HBr.out⟩, ⟨below_then HBL.out (below_size HBL.out) HBr.out⟩⟩
        | some qv =>
          go_wp2_with (first | (go_at_call 69; (with_reducible refine (bra_wiring k (some ⟨g6, 0, none⟩) y n ws m _ _ HY.out.1 HY.out.2 A3.out T CC.out HQ.out).mono ?_); rintro e w11 ⟨v11, rfl, hR, hb⟩; have H11 := Aside0.mk (show Kd.R (Kd.int .i64) 3 w11 _ (fun _ => True) v11 qv from hR); obtain ⟨A11, c11, e11⟩ := Kd.R_slice H11.out; subst e11; have n0_ := Aside0.mk (below_then HBr.out (below_size HBr.out) hb); have L11 := Aside0.mk (below_size HBr.out); clear HBr hb hR; have HBr := n0_; clear n0_) | ((with_reducible refine gate_builtin (b := .append) (xs := #[.tmp 48, .tmp 50]) rfl ?_); at_builtin; refine Kd.S_append (Kd.slice 3 (Kd.int .i64)) (w0 := w4) w4.heap.size rfl (.tmp 48) (.tmp 50) 34 22 (.slice none 0 0) 24 rfl Try.underlying34 info22 rfl (by decide) (by omega) u3 out qv [.slice A11 qv.length c11] (fun _ => True) (fun k => some k = (.slice A11 qv.length c11 : Value).ownBlock) rfl rfl ?aP ?aK ?aF ?aO ?aB ?aS ?aL ?_; (case aP => exact ⟨_, rfl, Kd.R_lower (Kd.R_tight rfl H11.out) (Nat.le_trans (below_size HBL.out) L11.out)⟩); (case aK => exact fun k hk => ⟨trivial, fun he => by have h1 := Kd.R_base H11.out k hk.symm; have h2 := Kd.R_lt (Kd.S_R HS.out) k he.symm; have h3 := L11.out; omega⟩); (case aF => exact fun k hk => trivial); (case aO => exact Kd.S_mono (Kd.S_below (Kd.S_bound HS.out) HBr.out) (fun k hk => ⟨trivial, fun he => by have h1 := Kd.R_base H11.out k he.symm; have h2 := hk.2.2.1; have h3 := L11.out; omega⟩)); (case aB => exact below_then HBL.out (below_size HBL.out) HBr.out); (case aS => exact Nat.le_trans (below_size HBL.out) (below_size HBr.out)); (case aL => have := HOL.out; omega); intro v24 w24 ho hb hg hat_; clear hg hat_; have HS2 := Aside0.mk ho; have HB2 := Aside0.mk hb; clear ho hb))
          go_roundg k1
          case measure => have := HK1.out; omega
          case rel => exact ⟨out ++ [qv], _, by first | rfl | (simp; done), H', ⟨by have := HK1.out; omega⟩, HS2, HB2⟩
def impl_BraidsFrom.f (k : Nat) (a0 : Int) (l1 : List Int) : Option (List (List Int)) := (impl_SignsOfWiring.f k a0 l1).bind fun r => if r.2.2 = true then (impl_tableOf.f k r.1 r.2.1).bind fun T => impl_chi_braids.f k T else some []
theorem impl_BraidsFrom.mono : ∀ a0 a1 k, LeO (impl_BraidsFrom.f k a0 a1) (impl_BraidsFrom.f (k + 1) a0 a1) := by
  intro a0 a1 k
  unfold impl_BraidsFrom.f
  refine LeO.bind (impl_SignsOfWiring.mono _ _ _) (fun _ => LeO.ite ?_ (LeO.refl _))
  exact LeO.bind (impl_tableOf.mono _ _ _) (fun _ => impl_chi_braids.mono _ _)
set_option maxHeartbeats 8000000 in
set_option maxRecDepth 100000 in
theorem impl_BraidsFrom.calls (k : Nat) (a0 : Int) (A1 : Option Addr) (c1 : Nat) (l1 : List Int) (r : List (List Int)) (w : World) (hr1 : Kd.C (Kd.int .i64) w A1 l1.length l1) (hc1 : l1.length ≤ c1) (h : impl_BraidsFrom.f k a0 l1 = some r) :
    Calls Try.prog 45 #[.int .i64 a0, .slice A1 l1.length c1] w fun e w' => ∃ v : Value, e = .returned v ∧ Kd.S (Kd.slice 3 (Kd.int .i64)) 22 w' w.heap.size (fun _ => True) v r ∧ Below w.heap.size w w' := by
  have hu28 := Try.underlying28
  have HR1 := Aside0.mk hr1
  have HC1 := Aside0.mk hc1
  unfold impl_BraidsFrom.f at h
  obtain ⟨⟨s1, s2, s3⟩, AS, H⟩ := Option.bind_eq_some_iff.mp h
  replace AS := Aside0.mk AS
  clear h hr1 hc1
  simp only at H
  cases s3 with
  | false =>
    rw [if_neg (by simp)] at H
    cases H
    go_enter Try.func45, Try.ntmps45
    go_wp2_with (first | (go_at_call 19; (with_reducible refine (impl_SignsOfWiring.calls k a0 A1 c1 l1 s1 s2 _ _ HR1.out HC1.out AS.out).mono ?_); rintro e w4 ⟨rfl, hb⟩; have HB4 := Aside0.mk hb; clear hb) | ((with_reducible refine gate_dst (N := 5) rfl ?_); refine bx 5 #[.int .i64 0, .string (⟨#[]⟩ : ByteArray)] 28 ?_; intro g6 hg w6 hbox hb; have BK6 := Aside0.mk hbox; have HG6 := Aside0.mk (show w.heap.size ≤ g6 by rw [hg]; exact HB4.out.size); have HB6 := Aside0.mk (below_step HB4.out hb); have hz0 := bc BK6 0; have hz1 := bc BK6 1; have hf0 := bf BK6 0; have hf1 := bf BK6 1; clear hb hbox hg))
    go_ret
    exact ⟨_, rfl, Kd.S_nil _ _ _ _ _, (HB6.out.setCell HG6.out _).setCell HG6.out _⟩
  | true =>
    rw [if_pos rfl] at H
    obtain ⟨T, A2, H⟩ := Option.bind_eq_some_iff.mp H
    replace A2 := Aside0.mk A2
    have A3 := Aside0.mk H
    clear H
    go_enter Try.func45, Try.ntmps45
    go_wp2_with (first | (go_at_call 19; (with_reducible refine (impl_SignsOfWiring.calls k a0 A1 c1 l1 s1 s2 _ _ HR1.out HC1.out AS.out).mono ?_); rintro e w4 ⟨rfl, hb⟩; have HB4 := Aside0.mk hb; clear hb) | ((with_reducible refine gate_dst (N := 5) rfl ?_); refine bx 5 #[.int .i64 0, .string (⟨#[]⟩ : ByteArray)] 28 ?_; intro g6 hg w6 hbox hb; have BK6 := Aside0.mk hbox; have HG6 := Aside0.mk (show w.heap.size ≤ g6 by rw [hg]; exact HB4.out.size); have HB6 := Aside0.mk (below_step HB4.out hb); have hz0 := bc BK6 0; have hz1 := bc BK6 1; have hf0 := bf BK6 0; have hf1 := bf BK6 1; clear hb hbox hg) | (go_at_call 68; (with_reducible refine (impl_tableOf.calls k s1 s2 T _ A2.out).mono ?_); rintro e w5 ⟨v5, rfl, ho, hb⟩; have HO5 := Aside0.mk ho; have HB5 := Aside0.mk (below_step ((HB6.out.setCell HG6.out _).setCell HG6.out _) hb); clear hb ho; obtain ⟨Ao5, co5, eo5⟩ := Kd.R_slice HO5.out; subst eo5) | (go_at_call 75; refine calls_of_args (args' := #[.pointer Ao5]) (by rfl) ((impl_chi_braids.calls k Ao5 T r _ (Kd.R_reads' HO5.out).2.2 A3.out).mono ?_); rintro e w7 ⟨v7, rfl, ho, hb⟩; have HS7 := Aside0.mk (Kd.S_lower ho (below_size HB5.out)); have HB7 := Aside0.mk (below_step HB5.out hb); clear ho hb))
    go_ret
    exact ⟨_, rfl, HS7.out, HB7.out⟩
end Go.Proofs.Ythibphndihjcaaa.P
