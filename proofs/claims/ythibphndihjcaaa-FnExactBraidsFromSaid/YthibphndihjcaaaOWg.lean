/- impl.chi.wiring: what a call of it computes. Conditions: a table of at most six elements. -/
import Derived.Test.YthibphndihjcaaaOMay
import Derived.Test.YthibphndihjcaaaWAll2
import Derived.Test.YthibphndihjcaaaP47
namespace Go.Proofs.Ythibphndihjcaaa.P
open Go.RowKit Go.Proofs.YthibphndihjcaaaW.PrintWords Go.Proofs.YthibphndihjcaaaW.PrintLast Go.Proofs.YthibphndihjcaaaW.PrintMore
set_option linter.unusedVariables false
set_option linter.unusedSimpArgs false

theorem tbB_set (L : List Bool) (i : Nat) (x : Bool) : (tbB L).setIfInBounds i (.bool x) = tbB (L.set i x) := by simp [tbB, List.map_set]
/-- Can the wires at a place be exchanged? -/
def wgOk (l : List Int) (D : List Bool) (n : Nat) (ws : List Int) (p : Nat) : Bool := decide (ws.getD p 0 < ws.getD (p + 1) 0) && mayAll l D (ws.getD p 0) (ws.getD (p + 1) 0) n
/-- The first such place. -/
def wgFind (l : List Int) (D : List Bool) (n : Nat) (ws : List Int) : Option Nat := (List.range (n - 1)).find? (wgOk l D n ws)
def wgDone (D : List Bool) (ws : List Int) (p : Nat) : List Bool := D.set ((ws.getD p 0).toNat * 6 + (ws.getD (p + 1) 0).toNat) true
def wgSwap (ws : List Int) (p : Nat) : List Int := (ws.set p (ws.getD (p + 1) 0)).set (p + 1) (ws.getD p 0)
/-- The exchanges that are left. -/
def wgRun (l : List Int) (n : Nat) : Nat → List Int → List Bool → List Int → Option (List Int)
  | 0, _, _, o => some o
  | d + 1, ws, D, o => match wgFind l D n ws with
    | none => none
    | some p => wgRun l n d (wgSwap ws p) (wgDone D ws p) (o ++ [(p : Int)])
def wg.T4 : Bool × List (List Nat × List Nat) := (true, [([], []), ([0], [0]), ([], []), ([2], [2]), ([3], [3]), ([4], [4]), ([], []), ([6], [6]), ([7], [7]), ([8], [8]), ([9], [9]), ([5, 10], [5, 10]), ([11], [11]), ([1, 12], [1, 12])])
def wg.B4 : List Nat := [0, 1, 0, 4, 12, 28, 0, 64, 192, 448, 960, 2044, 4092, 8191]
theorem wg.tab4 : rtab .any (opsOf Try.f69 4) = wg.T4 := by kernel_rfl
theorem wg.bits4 : waitsOk wg.T4.2 wg.B4 = true := by kernel_rfl
def wg.T9 : Bool × List (List Nat × List Nat) := (true, [([], []), ([], []), ([0, 1], [0, 1]), ([2], [2]), ([], []), ([], []), ([5], [5]), ([4, 6], [4, 6]), ([7], [7]), ([3, 8], [3, 8]), ([9], [9]), ([10], [10]), ([10], [10]), ([10], [10]), ([10], [10]), ([13, 14, 10], [10, 13, 14]), ([15, 10], [10, 15]), ([10], [10]), ([10], [10]), ([18, 10], [10, 18]), ([17, 19, 10], [10, 17, 19]), ([20, 10], [10, 20]), ([11, 12, 16, 21, 10, 10], [10, 11, 12, 16, 21]), ([10, 22], [10, 22])])
def wg.B9 : List Nat := [0, 0, 3, 7, 0, 0, 32, 112, 240, 511, 1023, 2047, 2047, 2047, 2047, 26623, 59391, 2047, 2047, 264191, 919551, 1968127, 4194303, 8388607]
theorem wg.tab9 : rtab .any (opsOf Try.f69 9) = wg.T9 := by kernel_rfl
theorem wg.bits9 : waitsOk wg.T9.2 wg.B9 = true := by kernel_rfl
def wg.T13 : Bool × List (List Nat × List Nat) := (true, [([], []), ([], []), ([0, 1], [0, 1]), ([2], [2]), ([], []), ([], []), ([5], [5]), ([4, 6], [4, 6]), ([7], [7]), ([3], [3]), ([9, 8, 0, 1, 2, 3, 4, 5, 6, 7, 8], [8, 9]), ([10, 0, 1, 2, 3, 4, 5, 6, 7, 8], [10])])
def wg.B13 : List Nat := [0, 0, 3, 7, 0, 0, 32, 112, 240, 15, 1023, 2047]
theorem wg.tab13 : rtab .any (opsOf Try.f69 13) = wg.T13 := by kernel_rfl
theorem wg.bits13 : waitsOk wg.T13.2 wg.B13 = true := by kernel_rfl
def wg.T14 : Bool × List (List Nat × List Nat) := (true, [([], []), ([], []), ([], []), ([], []), ([3], [3]), ([], []), ([], []), ([6], [6]), ([5, 7], [5, 7]), ([8], [8]), ([], []), ([], []), ([10, 11], [10, 11]), ([12], [12]), ([0, 1, 0, 1, 5, 6, 7, 8, 9, 13], [0, 1]), ([14, 9, 0, 1, 5, 6, 7, 8, 9, 13], [9, 14]), ([2, 4, 0, 1, 2, 3, 4, 5, 6, 7, 8, 9, 10, 11, 12, 13, 14, 15], [2, 4]), ([16, 13, 15, 0, 1, 2, 3, 4, 5, 6, 7, 8, 9, 10, 11, 12, 13, 14, 15], [13, 16])])
def wg.B14 : List Nat := [0, 0, 0, 0, 8, 0, 0, 64, 224, 480, 0, 0, 3072, 7168, 16355, 32739, 65535, 131071]
theorem wg.tab14 : rtab .any (opsOf Try.f69 14) = wg.T14 := by kernel_rfl
theorem wg.bits14 : waitsOk wg.T14.2 wg.B14 = true := by kernel_rfl
section
variable {P : Program} {ops : Array Oper} {Q : Exit → Act → World → Prop} {md : Region.Mode} {S : World → Prop} {ds : List Nat}
theorem loadRow_run {o : Oper} {a : Act} {cs : Array Value} (ty : TypeId) (x : Operand) (ho : o.op = .load ty x) (g : Nat) (hx : a.eval x = .pointer (some ⟨g, 0, none⟩)) (w : World) (hrow : (loadVar ty ⟨g, 0, none⟩).run P w = .ok (.agg cs) w) :
    (execOp a.eval o).run P w = .ok (.value (.agg cs)) w := by
  unfold execOp
  simp only [ho, hx, Instr.loadAt, Instr.sureAddr, Sem.run_bind, Sem.run_pure, Result.andThen_ok, hrow]
/-- An operation that yields nothing, as its guard says no. -/
theorem pnW (i N : Nat) {T : Bool × List (List Nat × List Nat)} {oi : Oper} {fuel : Nat} {l : Array Bool} {a : Act} {w : World} {a' : Act} (hT : Aside0 (rtab md ops = T))
    (h : wpAnyLast P md ops Q S ds fuel (l.setIfInBounds i true) a' w) (hi : ops[i]? = some oi := by exact rfl) (hN : oi.dst = some N := by exact rfl) (hc : anyT T l.toList (l.setIfInBounds i true).toList i = true := by kernel_rfl)
    (hQ : ∀ c a w, Q (.panic c) (a.put oi.dst undef) w → Q (.panic c) a w := by exact fun _ _ _ h => h) (hy : Region.wanted oi (yielded ops a.tmps) = false := by rfl)
    (ha : a.put (some N) undef = a' := by simp only [Act.put, List.setIfInBounds_toArray, List.set_cons_zero, List.set_cons_succ, i64_w, i32_w]; rfl) : wpAnyLast P md ops Q S ds (fuel + 1) l a w :=
  pure_ (i := i) (N := some N) _ hi hN (any_of hT.out hc) hQ (.inr ⟨hy, rfl⟩) ha h
theorem nopeW {c : Bool} {p q : Prop} (hc : c = false) (hq : q) : if c = true then p else q := by rw [if_neg (by rw [hc]; simp)]; exact hq
end
theorem wgFind_at (l : List Int) (D : List Bool) (n : Nat) (ws : List Int) (p : Nat) (hp : p < n - 1) (h : wgOk l D n ws p = true) (hno : ∀ q, q < p → wgOk l D n ws q = false) : wgFind l D n ws = some p := by
  unfold wgFind
  rw [List.find?_eq_some_iff_getElem]
  refine ⟨h, p, by rw [List.length_range]; exact hp, by simp, fun j hj => ?_⟩
  simp [hno j hj]
theorem wgFind_none (l : List Int) (D : List Bool) (n : Nat) (ws : List Int) (hno : ∀ q, q < n - 1 → wgOk l D n ws q = false) : wgFind l D n ws = none := by
  unfold wgFind
  rw [List.find?_eq_none]
  intro q hq
  rw [hno q (List.mem_range.1 hq)]; simp
set_option maxHeartbeats 8000000 in
set_option maxRecDepth 100000 in
theorem impl_chi_wiring.calls (k : Nat) (A0 : Option Addr) (l : List Int) (n : Nat) (ws0 : List Int) (m : Nat) (w : World) (hC : Kd.C (Kd.int .i64) w A0 l.length l) (hl : 344 ≤ l.length) (hn : rd l 0 = (n : Int)) (h3 : 3 ≤ n) (h6 : n ≤ 6) (hup : impl_upTo.f k (n : Int) = some ws0) (hw0 : ws0.length = n) (hw1 : ∀ x ∈ ws0, 0 ≤ x ∧ x < 6) (hm : Int.tdiv (wrap64 ((n : Int) * wrap64 ((n : Int) - 1))) 2 = (m : Int)) (hm2 : m ≤ 100) :
    Calls Try.prog 69 #[.pointer A0] w fun e w' => ∃ v, e = .returned (.tuple #[v, .bool (wgRun l n m ws0 (List.replicate 36 false) []).isSome]) ∧ Kd.R (Kd.int .i64) 3 w' w.heap.size (fun _ => True) v ((wgRun l n m ws0 (List.replicate 36 false) []).getD []) ∧ Below w.heap.size w w' := by
  have HC := Aside0.mk hC
  have HL := Aside0.mk hl
  have HN := Aside0.mk hn
  have H6 := Aside0.mk (And.intro h3 (And.intro h6 hm2))
  have HU := Aside0.mk hup
  have HW := Aside0.mk (And.intro hw0 hw1)
  have HM := Aside0.mk hm
  have HB := Aside0.mk (Below.refl w.heap.size w)
  have q0 : (0 : Int) < (l.length : Int) := by omega
  obtain ⟨ad, he, hx0⟩ := Kd.at_int hC 0 (by omega) q0
  subst he
  rw [show ((0 : Int)).toNat = 0 from rfl, Addr.add_zero', hn] at hx0
  have HX0 := Aside0.mk hx0
  clear q0 hC hl hn h3 h6 hup hw0 hw1 hm hm2
  obtain ⟨N, hN⟩ : ∃ z : Int, (n : Int) = z := ⟨_, rfl⟩
  rw [hN] at HX0 HU HM hx0
  have HNN := Aside0.mk hN
  clear hN
  go_enter Try.func69, Try.ntmps69
  go_wp2_with (first | (go_at_call 72; (with_reducible refine (impl_upTo.calls k N ws0 _ HU.out).mono ?_); rintro e w4 ⟨v4, rfl, ho, hb⟩; have HO4 := Aside0.mk ho; have HB4 := Aside0.mk hb; clear ho hb) | ((with_reducible refine gate_dst (N := 5) rfl ?_); refine bx 5 (tbB (List.replicate 36 false)) 84 ?_; intro g5 hg w5 hbox hb; have BK5 := Aside0.mk hbox; have HO5 := Aside0.mk (Kd.R_below HO4.out hb); have LT5 := Aside0.mk (show w.heap.size ≤ g5 by rw [hg]; exact HB4.out.size); have HB5 := Aside0.mk (below_step HB4.out hb); clear hb hbox hg HO4 HB4))
  obtain ⟨g4, c4, rfl, hg4, _, ⟨cells4, hc4⟩⟩ := Kd.R_form HO5.out (by have := HW.out.1; have := H6.out; omega)
  have NE := Aside0.mk (show g4 ≠ g5 by
    intro h
    subst h
    have h2 := hc4.symm.trans BK5.out
    injection h2 with h2; injection h2 with _ h3 _; exact absurd h3 (by decide))
  have G4 := Aside0.mk hg4
  have HR5 := Aside0.mk (Kd.R_mono (Kd.R_tight rfl HO5.out) (ok' := fun k => k = g4) (fun k hk => by have : some k = some g4 := hk; injection this))
  clear hg4 hc4 HO5
  obtain ⟨M, hM⟩ : ∃ z : Int, (m : Int) = z := ⟨_, rfl⟩
  have HMM := Aside0.mk hM
  have hm' : Int.tdiv (wrap64 (N * wrap64 (N - 1))) 2 = M := by rw [HM.out, hM]
  have hwm : wrap64 M = M := by rw [← hM]; unfold wrap64; have := H6.out; omega
  clear hM hx0
  go_loopg [6] m (fun gg v6 w' => ∃ (ws : List Int) (D : List Bool) (o : List Int) (d : Nat), o.length + d = m ∧ d ≤ gg ∧ Aside0 (ws.length = n ∧ (∀ x ∈ ws, 0 ≤ x ∧ x < 6) ∧ D.length = 36) ∧ Aside0 (wgRun l n d ws D o = wgRun l n m ws0 (List.replicate 36 false) []) ∧ Aside0 (Kd.R (Kd.int .i64) 3 w' w.heap.size (fun k => k = g4) (.slice (some ⟨g4, 0, none⟩) ws0.length c4) ws) ∧ Aside0 (w'.heap[g5]? = some (.cells (tbB D) 84 (0, 0))) ∧ Aside0 (Kd.R (Kd.int .i64) 3 w' w.heap.size (fun k => k ≠ g4) v6 o) ∧ Aside0 (Below w.heap.size w w'))
  case atStart => exact ⟨ws0, List.replicate 36 false, [], m, by simp, Nat.le_refl _, ⟨HW.out.1, HW.out.2, by simp⟩, ⟨rfl⟩, HR5, BK5, ⟨Kd.R_nil _ _ _ _ _⟩, HB5⟩
  case round =>
    clear HR5 BK5 HB5
    obtain ⟨ws, D, o, d, hd, hdg, HI, HRUN, HR4, BK5, HO, HB0⟩ := hrel
    have hx := (HB0.out.cell (World.block_lt_of_cell? _ _ HX0.out)).trans HX0.out
    obtain ⟨A6, c6, e6⟩ := Kd.R_slice HO.out
    subst e6
    cases d with
    | zero =>
      have cl : decide ((o.length : Int) < M) = false := decide_eq_false (by rw [← HMM.out]; omega)
      go_wp2
      refine start_ (n := 14) (S := fun w' => w'.cell? ad = some (.int .i64 N)) (ds := []) #[false, false, false, false, false, false, false, false, false, false, false, false, false, false] (by kernel_rfl) rfl rfl hx (fun hHeld => ?_); refine with_tabW wg.tab4 wg.bits4 (fun HT_ HW_ => ?_)
      refine pu 0 14 HT_ ?_
      refine pu 2 16 HT_ ?_
      refine pu 3 17 HT_ ?_
      refine pu 4 18 HT_ ?_
      refine pu 6 20 HT_ ?_
      refine pu 7 21 HT_ ?_
      refine pu 8 22 HT_ ?_
      refine take_ (i := 5) (N := some 19) (v := ?_) (a' := ?_) #[true, false, true, true, true, true, true, true, true, false, false, false, false, false] rfl rfl (take_ofW HT_.out HW_.out (by kernel_rfl)) (fun _ _ _ h => h) (Or.inl ⟨by rfl, ?_⟩) hHeld ?_ ?_
      rotate_left
      · intro w' s0
        go_simp
        with_reducible rfl
      rotate_left
      · simp only [Act.put, List.setIfInBounds_toArray, List.set_cons_zero, List.set_cons_succ, i64_w, i32_w]
        rfl
      refine take_ (i := 9) (N := some 23) (v := ?_) (a' := ?_) #[true, false, true, true, true, true, true, true, true, true, false, false, false, false] rfl rfl (take_ofW HT_.out HW_.out (by kernel_rfl)) (fun _ _ _ h => h) (Or.inl ⟨by rfl, ?_⟩) hHeld ?_ ?_
      rotate_left
      · intro w' s0
        go_simp
        with_reducible rfl
      rotate_left
      · simp only [Act.put, List.setIfInBounds_toArray, List.set_cons_zero, List.set_cons_succ, i64_w, i32_w]
        rfl
      refine pu 10 24 HT_ ?_
      refine pu 11 25 HT_ ?_
      refine pu 12 26 HT_ ?_
      refine pu 1 15 HT_ ?_
      refine pu 13 27 HT_ ?_
      refine done_ (done_of HT_.out (by kernel_rfl)) ?_
      go_wp2
      go_ret2
      have hR : wgRun l n m ws0 (List.replicate 36 false) [] = some o := by rw [← HRUN.out]; rfl
      exact ⟨_, by rw [hR]; rfl, by rw [hR]; exact Kd.R_mono (Kd.R_drew HO.out) (fun _ _ => trivial), below_drew1 HB0.out⟩
    | succ d =>
      have cl : decide ((o.length : Int) < M) = true := decide_eq_true (by rw [← HMM.out]; omega)
      go_wp2
      refine start_ (n := 14) (S := fun w' => w'.cell? ad = some (.int .i64 N)) (ds := []) #[false, false, false, false, false, false, false, false, false, false, false, false, false, false] (by kernel_rfl) rfl rfl hx (fun hHeld => ?_); refine with_tabW wg.tab4 wg.bits4 (fun HT_ HW_ => ?_)
      refine pu 0 14 HT_ ?_
      refine pu 2 16 HT_ ?_
      refine pu 3 17 HT_ ?_
      refine pu 4 18 HT_ ?_
      refine pu 6 20 HT_ ?_
      refine pu 7 21 HT_ ?_
      refine pu 8 22 HT_ ?_
      refine take_ (i := 5) (N := some 19) (v := ?_) (a' := ?_) #[true, false, true, true, true, true, true, true, true, false, false, false, false, false] rfl rfl (take_ofW HT_.out HW_.out (by kernel_rfl)) (fun _ _ _ h => h) (Or.inl ⟨by rfl, ?_⟩) hHeld ?_ ?_
      rotate_left
      · intro w' s0
        go_simp
        with_reducible rfl
      rotate_left
      · simp only [Act.put, List.setIfInBounds_toArray, List.set_cons_zero, List.set_cons_succ, i64_w, i32_w]
        rfl
      refine take_ (i := 9) (N := some 23) (v := ?_) (a' := ?_) #[true, false, true, true, true, true, true, true, true, true, false, false, false, false] rfl rfl (take_ofW HT_.out HW_.out (by kernel_rfl)) (fun _ _ _ h => h) (Or.inl ⟨by rfl, ?_⟩) hHeld ?_ ?_
      rotate_left
      · intro w' s0
        go_simp
        with_reducible rfl
      rotate_left
      · simp only [Act.put, List.setIfInBounds_toArray, List.set_cons_zero, List.set_cons_succ, i64_w, i32_w]
        rfl
      refine pu 10 24 HT_ ?_
      refine pu 11 25 HT_ ?_
      refine pu 12 26 HT_ ?_
      refine pu 1 15 HT_ ?_
      refine pu 13 27 HT_ ?_
      refine done_ (done_of HT_.out (by kernel_rfl)) ?_
      go_wp2
      go_loopg [7, 8] (n - 1) (fun gg v7 v8 w' => ∃ p : Nat, v8 = .int .i64 p ∧ ((v7 = .int .i64 (-1) ∧ p ≤ n - 1 ∧ n - 1 - p ≤ gg ∧ Aside0 (∀ q, q < p → wgOk l D n ws q = false)) ∨ (∃ q : Nat, v7 = .int .i64 q ∧ q < n - 1 ∧ p = q + 1 ∧ Aside0 (wgFind l D n ws = some q))) ∧ Aside0 (Kd.R (Kd.int .i64) 3 w' w.heap.size (fun k => k = g4) (.slice (some ⟨g4, 0, none⟩) ws0.length c4) ws) ∧ Aside0 (w'.heap[g5]? = some (.cells (tbB D) 84 (0, 0))) ∧ Aside0 (Kd.R (Kd.int .i64) 3 w' w.heap.size (fun k => k ≠ g4) (.slice A6 o.length c6) o) ∧ Aside0 (Below w.heap.size w w'))
      case atStart => exact ⟨0, rfl, .inl ⟨rfl, by omega, by omega, ⟨fun q hq => absurd hq (Nat.not_lt_zero _)⟩⟩, ⟨Kd.R_drew HR4.out⟩, ⟨blk_drew BK5.out⟩, ⟨Kd.R_drew HO.out⟩, ⟨below_drew1 HB0.out⟩⟩
      case round =>
        have HD36 := Aside0.mk HI.out.2.2
        clear hx HR4 BK5 HO HB0
        obtain ⟨p, rfl, hcase, HR4, BK5, HO, HB0⟩ := hrel
        have hx := (HB0.out.cell (World.block_lt_of_cell? _ _ HX0.out)).trans HX0.out
        have h6' := H6.out
        have HN1_ := Aside0.mk (show wrap64 (N - 1) = ((n - 1 : Nat) : Int) by rw [← HNN.out]; unfold wrap64; omega)
        obtain ⟨N1, hN1⟩ : ∃ y : Int, ((n - 1 : Nat) : Int) = y := ⟨_, rfl⟩
        rw [hN1] at HN1_
        have hn1 := HN1_.out
        clear HN1_
        rcases hcase with ⟨rfl, hp1, hpg, HNO⟩ | ⟨q, rfl, hq1, rfl, HF⟩
        · by_cases hpn : p < n - 1
          · have ci : decide ((p : Int) < N1) = true := decide_eq_true (by omega)
            obtain ⟨ha0, ha1⟩ := Kd.R_celln 0 HR4.out (p : Int) (by omega) (by have := HW.out.1; omega)
            obtain ⟨hb0, hb1⟩ := Kd.R_celln 0 HR4.out ((p + 1 : Nat) : Int) (by omega) (by have := HW.out.1; omega)
            have hca : wr.cell? ⟨g4, (p : Int).toNat, none⟩ = some (.int .i64 (ws.getD p 0)) := ha0
            have hcb : wr.cell? ⟨g4, ((p + 1 : Nat) : Int).toNat, none⟩ = some (.int .i64 (ws.getD (p + 1) 0)) := hb0
            have HZ1 := Aside0.mk (show wrap64 ((p : Int) + 1) = ((p + 1 : Nat) : Int) from w_succM p (by omega))
            have k0 : (0 ≤ (p : Int)) = True := eq_true (by omega)
            have k1 : ((p : Int) < (ws0.length : Int)) = True := eq_true (by have := HW.out.1; omega)
            have k2 : (0 ≤ ((p + 1 : Nat) : Int)) = True := eq_true (by omega)
            have k3 : (((p + 1 : Nat) : Int) < (ws0.length : Int)) = True := eq_true (by have := HW.out.1; omega)
            have hmem : ∀ i, i < n → 0 ≤ ws.getD i 0 ∧ ws.getD i 0 < 6 := by
              intro i hi
              have := HI.out
              refine this.2.1 _ ?_
              rw [List.getD_eq_getElem?_getD, List.getElem?_eq_getElem (by omega)]
              exact List.getElem_mem _
            have HXA := Aside0.mk (hmem p (by omega))
            have HXB := Aside0.mk (hmem (p + 1) (by omega))
            clear ha0 ha1 hb0 hb1 hmem
            have hbk := BK5.out
            have HBp := HB0
            have HOKD := Aside0.mk (show wgOk l D n ws p = (decide (ws.getD p 0 < ws.getD (p + 1) 0) && mayAll l D (ws.getD p 0) (ws.getD (p + 1) 0) n) from rfl)
            obtain ⟨z, hz⟩ : ∃ z : Int, (p : Int) = z := ⟨_, rfl⟩
            obtain ⟨z1, hzz1⟩ : ∃ z : Int, ((p + 1 : Nat) : Int) = z := ⟨_, rfl⟩
            rw [hz] at ci hca HZ1 k0 k1 ⊢
            rw [hzz1] at hcb HZ1 k2 k3
            have hz1 := HZ1.out
            clear HZ1
            generalize ws.getD p 0 = xa at hca HXA HOKD
            generalize ws.getD (p + 1) 0 = xb at hcb HXB HOKD
            have HZ := Aside0.mk (And.intro hz (And.intro hzz1 (And.intro hp1 (And.intro hpg (And.intro hpn hN1)))))
            clear hz hzz1 hp1 hpg hpn hN1 h6'
            by_cases cx : xa < xb
            · have cxb : decide (xa < xb) = true := decide_eq_true cx
              clear cx
              cases hres : mayAll l D xa xb n with
              | true =>
                have HOK := Aside0.mk (show wgOk l D n ws p = true by rw [HOKD.out, cxb, hres]; rfl)
                go_wp2
                refine start_ (n := 24) (S := fun w' => w'.cell? ⟨g4, z.toNat, none⟩ = some (.int .i64 xa) ∧ w'.cell? ⟨g4, z1.toNat, none⟩ = some (.int .i64 xb) ∧ w'.heap[g5]? = some (.cells (tbB D) 84 (0, 0))) (ds := []) #[false, false, false, false, false, false, false, false, false, false, false, false, false, false, false, false, false, false, false, false, false, false, false, false] (by kernel_rfl) rfl rfl ⟨hca, hcb, hbk⟩ (fun hHeld => ?_); refine with_tabW wg.tab9 wg.bits9 (fun HT_ HW_ => ?_)
                refine pu 0 41 HT_ ?_
                refine pu 1 42 HT_ ?_
                refine pu 2 43 HT_ ?_
                refine pu 4 45 HT_ ?_
                refine pu 5 46 HT_ ?_
                refine pu 6 47 HT_ ?_
                refine pu 7 48 HT_ ?_
                refine take_ (i := 3) (N := some 44) (v := ?_) (a' := ?_) #[true, true, true, true, true, true, true, true, false, false, false, false, false, false, false, false, false, false, false, false, false, false, false, false] rfl rfl (take_ofW HT_.out HW_.out (by kernel_rfl)) (fun _ _ _ h => h) (Or.inl ⟨by rfl, ?_⟩) hHeld ?_ ?_
                rotate_left
                · rintro w' ⟨s0, s1, s2⟩
                  go_simp
                  with_reducible rfl
                rotate_left
                · simp only [Act.put, List.setIfInBounds_toArray, List.set_cons_zero, List.set_cons_succ, i64_w, i32_w]
                  rfl
                refine take_ (i := 8) (N := some 49) (v := ?_) (a' := ?_) #[true, true, true, true, true, true, true, true, true, false, false, false, false, false, false, false, false, false, false, false, false, false, false, false] rfl rfl (take_ofW HT_.out HW_.out (by kernel_rfl)) (fun _ _ _ h => h) (Or.inl ⟨by rfl, ?_⟩) hHeld ?_ ?_
                rotate_left
                · rintro w' ⟨s0, s1, s2⟩
                  go_simp
                  with_reducible rfl
                rotate_left
                · simp only [Act.put, List.setIfInBounds_toArray, List.set_cons_zero, List.set_cons_succ, i64_w, i32_w]
                  rfl
                refine pu 9 50 HT_ ?_
                refine pu 10 51 HT_ ?_
                refine pu 11 52 HT_ ?_
                refine pu 13 54 HT_ ?_
                refine pu 14 55 HT_ ?_
                refine pu 15 56 HT_ ?_
                refine pu 17 58 HT_ ?_
                refine pu 18 59 HT_ ?_
                refine pu 19 60 HT_ ?_
                refine pu 20 61 HT_ ?_
                refine take_ (i := 12) (N := some 53) (v := ?_) (a' := ?_) #[true, true, true, true, true, true, true, true, true, true, true, true, true, true, true, true, false, true, true, true, true, false, false, false] rfl rfl (take_ofW HT_.out HW_.out (by kernel_rfl)) (fun _ _ _ h => h) (Or.inl ⟨by rfl, ?_⟩) hHeld ?_ ?_
                rotate_left
                · rintro w' ⟨s0, s1, s2⟩
                  have hrow := run_loadVar_row (P := Try.prog) w' g5 84 84 (tbB D) (0, 0) _ s2 Try.underlying84 rfl (by rw [tbB_size, HD36.out]; kernel_rfl)
                  refine loadRow_run 84 (.tmp 5) ?_ g5 ?_ w' hrow <;> rfl
                rotate_left
                · simp only [Act.put, List.setIfInBounds_toArray, List.set_cons_zero, List.set_cons_succ, i64_w, i32_w]
                  rfl
                refine take_ (i := 16) (N := some 57) (v := ?_) (a' := ?_) #[true, true, true, true, true, true, true, true, true, true, true, true, true, true, true, true, true, true, true, true, true, false, false, false] rfl rfl (take_ofW HT_.out HW_.out (by kernel_rfl)) (fun _ _ _ h => h) (Or.inl ⟨by rfl, ?_⟩) hHeld ?_ ?_
                rotate_left
                · rintro w' ⟨s0, s1, s2⟩
                  go_simp
                  with_reducible rfl
                rotate_left
                · simp only [Act.put, List.setIfInBounds_toArray, List.set_cons_zero, List.set_cons_succ, i64_w, i32_w]
                  rfl
                refine take_ (i := 21) (N := some 62) (v := ?_) (a' := ?_) #[true, true, true, true, true, true, true, true, true, true, true, true, true, true, true, true, true, true, true, true, true, true, false, false] rfl rfl (take_ofW HT_.out HW_.out (by kernel_rfl)) (fun _ _ _ h => h) (Or.inl ⟨by rfl, ?_⟩) hHeld ?_ ?_
                rotate_left
                · rintro w' ⟨s0, s1, s2⟩
                  go_simp
                  with_reducible rfl
                rotate_left
                · simp only [Act.put, List.setIfInBounds_toArray, List.set_cons_zero, List.set_cons_succ, i64_w, i32_w]
                  rfl
                refine one_ (i := 22) (N := some 63) #[true, true, true, true, true, true, true, true, true, true, true, true, true, true, true, true, true, true, true, true, true, true, true, false] rfl rfl (one_of HT_.out (by kernel_rfl)) (by decide) (fun K hK => ?_)
                refine goes_ Try.func87 (by kernel_rfl) rfl #[.pointer (some ad), .agg (tbB D), .int .i64 xa, .int .i64 xb] (by rfl) rfl rfl (by (try simp only [List.map_toArray, List.map_cons, List.map_nil]); first | done | rfl) ?_
                refine (impl_chi_mayExchange.calls (some ad) l D n xa xb _ (Kd.C_drew (Kd.C_below HC.out HBp.out)) HL.out HN.out H6.out.2.1 HXA.out HXB.out HD36.out).mono ?_
                rintro e w9 ⟨rfl, hb9⟩
                refine ⟨_, rfl, ?_⟩
                rw [hres]
                refine hK.out _ _ ⟨(hb9.cell (World.block_lt_of_cell? _ _ hHeld.1)).trans hHeld.1, (hb9.cell (World.block_lt_of_cell? _ _ hHeld.2.1)).trans hHeld.2.1, blk_below hHeld.2.2 hb9⟩ (fun hHeld9 => ?_)
                clear hK K
                refine norm_ (a' := ?_) ?_ ?_; (rotate_left; (show Act.put _ (some 63) _ = _; simp only [Act.put, List.setIfInBounds_toArray, List.set_cons_zero, List.set_cons_succ, i64_w, i32_w]; rfl))
                refine pu 23 64 HT_ ?_
                refine done_ (done_of HT_.out (by kernel_rfl)) ?_
                go_wp2
                go_roundg (n - 1 - (p + 1))
                case measure => have := HZ.out; omega
                case rel =>
                  have hZ := HZ.out
                  exact ⟨p + 1, by rw [← hZ.1, w_succM p (by have := H6.out; omega)], .inr ⟨p, by rw [hZ.1], by omega, rfl, ⟨wgFind_at l D n ws p (by omega) HOK.out HNO.out⟩⟩, ⟨Kd.R_below (Kd.R_drew HR4.out) hb9⟩, ⟨blk_below (blk_drew BK5.out) hb9⟩, ⟨Kd.R_below (Kd.R_drew HO.out) hb9⟩, ⟨below_step (below_drew1 HB0.out) hb9⟩⟩
              | false =>
                have HOK := Aside0.mk (show wgOk l D n ws p = false by rw [HOKD.out, cxb, hres]; rfl)
                go_wp2
                refine start_ (n := 24) (S := fun w' => w'.cell? ⟨g4, z.toNat, none⟩ = some (.int .i64 xa) ∧ w'.cell? ⟨g4, z1.toNat, none⟩ = some (.int .i64 xb) ∧ w'.heap[g5]? = some (.cells (tbB D) 84 (0, 0))) (ds := []) #[false, false, false, false, false, false, false, false, false, false, false, false, false, false, false, false, false, false, false, false, false, false, false, false] (by kernel_rfl) rfl rfl ⟨hca, hcb, hbk⟩ (fun hHeld => ?_); refine with_tabW wg.tab9 wg.bits9 (fun HT_ HW_ => ?_)
                refine pu 0 41 HT_ ?_
                refine pu 1 42 HT_ ?_
                refine pu 2 43 HT_ ?_
                refine pu 4 45 HT_ ?_
                refine pu 5 46 HT_ ?_
                refine pu 6 47 HT_ ?_
                refine pu 7 48 HT_ ?_
                refine take_ (i := 3) (N := some 44) (v := ?_) (a' := ?_) #[true, true, true, true, true, true, true, true, false, false, false, false, false, false, false, false, false, false, false, false, false, false, false, false] rfl rfl (take_ofW HT_.out HW_.out (by kernel_rfl)) (fun _ _ _ h => h) (Or.inl ⟨by rfl, ?_⟩) hHeld ?_ ?_
                rotate_left
                · rintro w' ⟨s0, s1, s2⟩
                  go_simp
                  with_reducible rfl
                rotate_left
                · simp only [Act.put, List.setIfInBounds_toArray, List.set_cons_zero, List.set_cons_succ, i64_w, i32_w]
                  rfl
                refine take_ (i := 8) (N := some 49) (v := ?_) (a' := ?_) #[true, true, true, true, true, true, true, true, true, false, false, false, false, false, false, false, false, false, false, false, false, false, false, false] rfl rfl (take_ofW HT_.out HW_.out (by kernel_rfl)) (fun _ _ _ h => h) (Or.inl ⟨by rfl, ?_⟩) hHeld ?_ ?_
                rotate_left
                · rintro w' ⟨s0, s1, s2⟩
                  go_simp
                  with_reducible rfl
                rotate_left
                · simp only [Act.put, List.setIfInBounds_toArray, List.set_cons_zero, List.set_cons_succ, i64_w, i32_w]
                  rfl
                refine pu 9 50 HT_ ?_
                refine pu 10 51 HT_ ?_
                refine pu 11 52 HT_ ?_
                refine pu 13 54 HT_ ?_
                refine pu 14 55 HT_ ?_
                refine pu 15 56 HT_ ?_
                refine pu 17 58 HT_ ?_
                refine pu 18 59 HT_ ?_
                refine pu 19 60 HT_ ?_
                refine pu 20 61 HT_ ?_
                refine take_ (i := 12) (N := some 53) (v := ?_) (a' := ?_) #[true, true, true, true, true, true, true, true, true, true, true, true, true, true, true, true, false, true, true, true, true, false, false, false] rfl rfl (take_ofW HT_.out HW_.out (by kernel_rfl)) (fun _ _ _ h => h) (Or.inl ⟨by rfl, ?_⟩) hHeld ?_ ?_
                rotate_left
                · rintro w' ⟨s0, s1, s2⟩
                  have hrow := run_loadVar_row (P := Try.prog) w' g5 84 84 (tbB D) (0, 0) _ s2 Try.underlying84 rfl (by rw [tbB_size, HD36.out]; kernel_rfl)
                  refine loadRow_run 84 (.tmp 5) ?_ g5 ?_ w' hrow <;> rfl
                rotate_left
                · simp only [Act.put, List.setIfInBounds_toArray, List.set_cons_zero, List.set_cons_succ, i64_w, i32_w]
                  rfl
                refine take_ (i := 16) (N := some 57) (v := ?_) (a' := ?_) #[true, true, true, true, true, true, true, true, true, true, true, true, true, true, true, true, true, true, true, true, true, false, false, false] rfl rfl (take_ofW HT_.out HW_.out (by kernel_rfl)) (fun _ _ _ h => h) (Or.inl ⟨by rfl, ?_⟩) hHeld ?_ ?_
                rotate_left
                · rintro w' ⟨s0, s1, s2⟩
                  go_simp
                  with_reducible rfl
                rotate_left
                · simp only [Act.put, List.setIfInBounds_toArray, List.set_cons_zero, List.set_cons_succ, i64_w, i32_w]
                  rfl
                refine take_ (i := 21) (N := some 62) (v := ?_) (a' := ?_) #[true, true, true, true, true, true, true, true, true, true, true, true, true, true, true, true, true, true, true, true, true, true, false, false] rfl rfl (take_ofW HT_.out HW_.out (by kernel_rfl)) (fun _ _ _ h => h) (Or.inl ⟨by rfl, ?_⟩) hHeld ?_ ?_
                rotate_left
                · rintro w' ⟨s0, s1, s2⟩
                  go_simp
                  with_reducible rfl
                rotate_left
                · simp only [Act.put, List.setIfInBounds_toArray, List.set_cons_zero, List.set_cons_succ, i64_w, i32_w]
                  rfl
                refine one_ (i := 22) (N := some 63) #[true, true, true, true, true, true, true, true, true, true, true, true, true, true, true, true, true, true, true, true, true, true, true, false] rfl rfl (one_of HT_.out (by kernel_rfl)) (by decide) (fun K hK => ?_)
                refine goes_ Try.func87 (by kernel_rfl) rfl #[.pointer (some ad), .agg (tbB D), .int .i64 xa, .int .i64 xb] (by rfl) rfl rfl (by (try simp only [List.map_toArray, List.map_cons, List.map_nil]); first | done | rfl) ?_
                refine (impl_chi_mayExchange.calls (some ad) l D n xa xb _ (Kd.C_drew (Kd.C_below HC.out HBp.out)) HL.out HN.out H6.out.2.1 HXA.out HXB.out HD36.out).mono ?_
                rintro e w9 ⟨rfl, hb9⟩
                refine ⟨_, rfl, ?_⟩
                rw [hres]
                refine hK.out _ _ ⟨(hb9.cell (World.block_lt_of_cell? _ _ hHeld.1)).trans hHeld.1, (hb9.cell (World.block_lt_of_cell? _ _ hHeld.2.1)).trans hHeld.2.1, blk_below hHeld.2.2 hb9⟩ (fun hHeld9 => ?_)
                clear hK K
                refine norm_ (a' := ?_) ?_ ?_; (rotate_left; (show Act.put _ (some 63) _ = _; simp only [Act.put, List.setIfInBounds_toArray, List.set_cons_zero, List.set_cons_succ, i64_w, i32_w]; rfl))
                refine pu 23 64 HT_ ?_
                refine done_ (done_of HT_.out (by kernel_rfl)) ?_
                go_wp2
                go_roundg (n - 1 - (p + 1))
                case measure => have := HZ.out; omega
                case rel =>
                  have hZ := HZ.out
                  exact ⟨p + 1, by rw [← hZ.1, w_succM p (by have := H6.out; omega)], .inl ⟨rfl, by omega, by omega, ⟨fun q hq => by
                    rcases Nat.lt_succ_iff_lt_or_eq.1 hq with h | h
                    · exact HNO.out q h
                    · rw [h]; exact HOK.out⟩⟩, ⟨Kd.R_below (Kd.R_drew HR4.out) hb9⟩, ⟨blk_below (blk_drew BK5.out) hb9⟩, ⟨Kd.R_below (Kd.R_drew HO.out) hb9⟩, ⟨below_step (below_drew1 HB0.out) hb9⟩⟩
            · have cxb : decide (xa < xb) = false := decide_eq_false cx
              clear cx
              have HOK := Aside0.mk (show wgOk l D n ws p = false by rw [HOKD.out, cxb]; rfl)
              go_wp2
              refine start_ (n := 24) (S := fun w' => w'.cell? ⟨g4, z.toNat, none⟩ = some (.int .i64 xa) ∧ w'.cell? ⟨g4, z1.toNat, none⟩ = some (.int .i64 xb) ∧ w'.heap[g5]? = some (.cells (tbB D) 84 (0, 0))) (ds := []) #[false, false, false, false, false, false, false, false, false, false, false, false, false, false, false, false, false, false, false, false, false, false, false, false] (by kernel_rfl) rfl rfl ⟨hca, hcb, hbk⟩ (fun hHeld => ?_); refine with_tabW wg.tab9 wg.bits9 (fun HT_ HW_ => ?_)
              refine pu 0 41 HT_ ?_
              refine pu 1 42 HT_ ?_
              refine pu 2 43 HT_ ?_
              refine pu 4 45 HT_ ?_
              refine pu 5 46 HT_ ?_
              refine pu 6 47 HT_ ?_
              refine pu 7 48 HT_ ?_
              refine take_ (i := 3) (N := some 44) (v := ?_) (a' := ?_) #[true, true, true, true, true, true, true, true, false, false, false, false, false, false, false, false, false, false, false, false, false, false, false, false] rfl rfl (take_ofW HT_.out HW_.out (by kernel_rfl)) (fun _ _ _ h => h) (Or.inl ⟨by rfl, ?_⟩) hHeld ?_ ?_
              rotate_left
              · rintro w' ⟨s0, s1, s2⟩
                go_simp
                with_reducible rfl
              rotate_left
              · simp only [Act.put, List.setIfInBounds_toArray, List.set_cons_zero, List.set_cons_succ, i64_w, i32_w]
                rfl
              refine take_ (i := 8) (N := some 49) (v := ?_) (a' := ?_) #[true, true, true, true, true, true, true, true, true, false, false, false, false, false, false, false, false, false, false, false, false, false, false, false] rfl rfl (take_ofW HT_.out HW_.out (by kernel_rfl)) (fun _ _ _ h => h) (Or.inl ⟨by rfl, ?_⟩) hHeld ?_ ?_
              rotate_left
              · rintro w' ⟨s0, s1, s2⟩
                go_simp
                with_reducible rfl
              rotate_left
              · simp only [Act.put, List.setIfInBounds_toArray, List.set_cons_zero, List.set_cons_succ, i64_w, i32_w]
                rfl
              refine pu 9 50 HT_ ?_
              refine pu 10 51 HT_ ?_
              refine pnW 11 52 HT_ ?_
              refine pnW 13 54 HT_ ?_
              refine pnW 14 55 HT_ ?_
              refine pnW 15 56 HT_ ?_
              refine pnW 17 58 HT_ ?_
              refine pnW 18 59 HT_ ?_
              refine pnW 19 60 HT_ ?_
              refine pnW 20 61 HT_ ?_
              refine pnW 12 53 HT_ ?_
              refine pnW 16 57 HT_ ?_
              refine pnW 21 62 HT_ ?_
              refine one_ (i := 22) (N := some 63) #[true, true, true, true, true, true, true, true, true, true, true, true, true, true, true, true, true, true, true, true, true, true, true, false] rfl rfl (one_of HT_.out (by kernel_rfl)) (by decide) (fun K hK => ?_)
              refine nopeW (by rfl) ?_
              refine hK.out _ _ hHeld (fun hHeld9 => ?_)
              clear hK K
              refine norm_ (a' := ?_) ?_ ?_; (rotate_left; (show Act.put _ (some 63) _ = _; simp only [Act.put, List.setIfInBounds_toArray, List.set_cons_zero, List.set_cons_succ, i64_w, i32_w]; rfl))
              refine pu 23 64 HT_ ?_
              refine done_ (done_of HT_.out (by kernel_rfl)) ?_
              go_wp2
              go_roundg (n - 1 - (p + 1))
              case measure => have := HZ.out; omega
              case rel =>
                have hZ := HZ.out
                exact ⟨p + 1, by rw [← hZ.1, w_succM p (by have := H6.out; omega)], .inl ⟨rfl, by omega, by omega, ⟨fun q hq => by
                  rcases Nat.lt_succ_iff_lt_or_eq.1 hq with h | h
                  · exact HNO.out q h
                  · rw [h]; exact HOK.out⟩⟩, ⟨Kd.R_drew HR4.out⟩, ⟨blk_drew BK5.out⟩, ⟨Kd.R_drew HO.out⟩, ⟨below_drew1 HB0.out⟩⟩
          · have ci : decide ((p : Int) < N1) = false := decide_eq_false (by omega)
            obtain rfl : p = n - 1 := by omega
            have HRN := Aside0.mk (show wgRun l n m ws0 (List.replicate 36 false) [] = none by rw [← HRUN.out]; simp only [wgRun, wgFind_none l D n ws HNO.out])
            clear h6'
            go_wp2
            go_ret2
            exact ⟨.slice none 0 0, by rw [HRN.out]; rfl, by rw [HRN.out]; exact Kd.R_nil _ _ _ _ _, HB0.out⟩
        · have hMP : ∃ bp : Bool, decide (((q + 1 : Nat) : Int) < N1) = bp := ⟨_, rfl⟩
          obtain ⟨bp, ci⟩ := hMP
          obtain ⟨ha0, ha1⟩ := Kd.R_celln 0 HR4.out (q : Int) (by omega) (by have := HW.out.1; omega)
          obtain ⟨hb0, hb1⟩ := Kd.R_celln 0 HR4.out ((q + 1 : Nat) : Int) (by omega) (by have := HW.out.1; omega)
          have hca : wr.cell? ⟨g4, (q : Int).toNat, none⟩ = some (.int .i64 (ws.getD q 0)) := ha0
          have hcb : wr.cell? ⟨g4, ((q + 1 : Nat) : Int).toNat, none⟩ = some (.int .i64 (ws.getD (q + 1) 0)) := hb0
          have hfa : wr.frozen? ⟨g4, (q : Int).toNat, none⟩ = false := ha1
          have hfb : wr.frozen? ⟨g4, ((q + 1 : Nat) : Int).toNat, none⟩ = false := hb1
          have k0 : (0 ≤ (q : Int)) = True := eq_true (by omega)
          have k1 : ((q : Int) < (ws0.length : Int)) = True := eq_true (by have := HW.out.1; omega)
          have k2 : (0 ≤ ((q + 1 : Nat) : Int)) = True := eq_true (by omega)
          have k3 : (((q + 1 : Nat) : Int) < (ws0.length : Int)) = True := eq_true (by have := HW.out.1; omega)
          have k4 : decide ((q : Int) < 0) = false := decide_eq_false (by omega)
          have hmem : ∀ i, i < n → 0 ≤ ws.getD i 0 ∧ ws.getD i 0 < 6 := by
            intro i hi
            have := HI.out
            refine this.2.1 _ ?_
            rw [List.getD_eq_getElem?_getD, List.getElem?_eq_getElem (by omega)]
            exact List.getElem_mem _
          have hxa := hmem q (by omega)
          have hxb := hmem (q + 1) (by omega)
          have m0 : (0 ≤ ws.getD q 0) = True := eq_true hxa.1
          have m1 : (ws.getD q 0 < 6) = True := eq_true hxa.2
          have m2 : (0 ≤ ws.getD (q + 1) 0) = True := eq_true hxb.1
          have m3 : (ws.getD (q + 1) 0 < 6) = True := eq_true hxb.2
          have hix : (ws.getD q 0).toNat * 6 + (ws.getD (q + 1) 0).toNat < D.length := by have := HD36.out; omega
          have HDC := Aside0.mk (show wr.cell? ⟨g5, (ws.getD q 0).toNat * 6 + (ws.getD (q + 1) 0).toNat, none⟩ = some (.bool (D.getD ((ws.getD q 0).toNat * 6 + (ws.getD (q + 1) 0).toNat) false)) from (blk_cell BK5.out _).trans (tbB_get D _ hix))
          have HDF := Aside0.mk (bf BK5 ((ws.getD q 0).toNat * 6 + (ws.getD (q + 1) 0).toNat))
          have HRUN2 := Aside0.mk (show wgRun l n d (wgSwap ws q) (wgDone D ws q) (o ++ [(q : Int)]) = wgRun l n m ws0 (List.replicate 36 false) [] by rw [← HRUN.out]; simp only [wgRun, HF.out])
          have HI2 := Aside0.mk (show (wgSwap ws q).length = n ∧ (∀ x ∈ wgSwap ws q, 0 ≤ x ∧ x < 6) ∧ (wgDone D ws q).length = 36 by
            refine ⟨by unfold wgSwap; rw [List.length_set, List.length_set]; exact HI.out.1, ?_, by unfold wgDone; rw [List.length_set]; exact HD36.out⟩
            intro x hx
            unfold wgSwap at hx
            rcases List.mem_or_eq_of_mem_set hx with hx | rfl
            · rcases List.mem_or_eq_of_mem_set hx with hx | rfl
              · exact HI.out.2.1 x hx
              · exact hxb
            · exact hxa)
          have HZ1 := Aside0.mk (show wrap64 ((q : Int) + 1) = ((q + 1 : Nat) : Int) from w_succM q (by omega))
          have HVA := Aside0.mk (show rd ws (q : Int) = ws.getD q 0 from rfl)
          have HVB := Aside0.mk (show rd ws ((q + 1 : Nat) : Int) = ws.getD (q + 1) 0 from rfl)
          have hws : wgSwap ws q = ((ws.set (q : Int).toNat (ws.getD (q + 1) 0)).set ((q + 1 : Nat) : Int).toNat (ws.getD q 0)) := rfl
          have hDs : wgDone D ws q = D.set ((ws.getD q 0).toNat * 6 + (ws.getD (q + 1) 0).toNat) true := rfl
          clear ha0 ha1 hb0 hb1 hmem hxa hxb hix HRUN HF
          obtain ⟨z, hz⟩ : ∃ z : Int, (q : Int) = z := ⟨_, rfl⟩
          obtain ⟨z1, hzz1⟩ : ∃ z : Int, ((q + 1 : Nat) : Int) = z := ⟨_, rfl⟩
          rw [hz] at hca hfa HZ1 k0 k1 k4 HRUN2 hws HVA ⊢
          rw [hzz1] at hcb hfb HZ1 k2 k3 hws ci HVB ⊢
          have hz1 := HZ1.out
          have HZ := Aside0.mk (And.intro hz (And.intro hzz1 (And.intro hq1 (And.intro hd hdg))))
          have HWS := Aside0.mk hws
          have HDS := Aside0.mk hDs
          generalize wgSwap ws q = ws2 at HWS HRUN2 HI2
          generalize wgDone D ws q = D2 at HDS HRUN2 HI2
          generalize ws.getD q 0 = xa at hca m0 m1 HDC HDF HWS HDS HVA
          generalize ws.getD (q + 1) 0 = xb at hcb m2 m3 HDC HDF HWS HDS HVB
          clear hz hzz1 hq1 HZ1 h6' hd hdg hN1 hws hDs
          have hdc := HDC.out
          have hdf := HDF.out
          cases bp with
          | true =>
            go_wp2
            refine start_ (n := 12) (S := fun w' => w'.cell? ⟨g4, z.toNat, none⟩ = some (.int .i64 xa) ∧ w'.cell? ⟨g4, z1.toNat, none⟩ = some (.int .i64 xb)) (ds := [11]) #[false, false, false, false, false, false, false, false, false, false, false, false] (by kernel_rfl) rfl rfl ⟨hca, hcb⟩ (fun hHeld => ?_); refine with_tabW wg.tab13 wg.bits13 (fun HT_ HW_ => ?_)
            refine pu 0 68 HT_ ?_
            refine pu 1 69 HT_ ?_
            refine pu 2 70 HT_ ?_
            refine pu 4 72 HT_ ?_
            refine pu 5 73 HT_ ?_
            refine pu 6 74 HT_ ?_
            refine pu 7 75 HT_ ?_
            refine take_ (i := 3) (N := some 71) (v := ?_) (a' := ?_) #[true, true, true, true, true, true, true, true, false, false, false, false] rfl rfl (take_ofW HT_.out HW_.out (by kernel_rfl)) (fun _ _ _ h => h) (Or.inl ⟨by rfl, ?_⟩) hHeld ?_ ?_
            rotate_left
            · rintro w' ⟨s0, s1⟩
              go_simp
              with_reducible rfl
            rotate_left
            · simp only [Act.put, List.setIfInBounds_toArray, List.set_cons_zero, List.set_cons_succ, i64_w, i32_w]
              rfl
            refine pu 9 77 HT_ ?_
            refine take_ (i := 8) (N := some 76) (v := ?_) (a' := ?_) #[true, true, true, true, true, true, true, true, true, true, false, false] rfl rfl (take_ofW HT_.out HW_.out (by kernel_rfl)) (fun _ _ _ h => h) (Or.inl ⟨by rfl, ?_⟩) hHeld ?_ ?_
            rotate_left
            · rintro w' ⟨s0, s1⟩
              go_simp
              with_reducible rfl
            rotate_left
            · simp only [Act.put, List.setIfInBounds_toArray, List.set_cons_zero, List.set_cons_succ, i64_w, i32_w]
              rfl
            refine pu 10 78 HT_ ?_
            refine last_ (i := 11) (N := none) #[true, true, true, true, true, true, true, true, true, true, true, true] rfl rfl (one_of HT_.out (by kernel_rfl)) (by decide) (fun K hK => ?_)
            refine skip_ (w1 := ?_) (by rfl) rfl ?_ ?_
            rotate_left
            · go_simp
              rfl
            refine hK.out _ _ ?_
            clear hK K
            refine done_ (done_of HT_.out (by kernel_rfl)) ?_
            have HR4b := Aside0.mk (Kd.R_drew (Kd.R_set HR4.out BK5.out (by decide) (xa.toNat * 6 + xb.toNat) (.bool true)))
            have HOb := Aside0.mk (Kd.R_drew (Kd.R_set HO.out BK5.out (by decide) (xa.toNat * 6 + xb.toNat) (.bool true)))
            have BK5b := Aside0.mk (show ((wr.setCell ⟨g5, xa.toNat * 6 + xb.toNat, none⟩ (.bool true)).drew).heap[g5]? = some (.cells (tbB D2) 84 (0, 0)) by rw [HDS.out]; exact blk_drew (blk_put BK5.out _ _ (tbB_set _ _ _)))
            have HBb := Aside0.mk (below_drew1 (HB0.out.setCell (p := ⟨g5, xa.toNat * 6 + xb.toNat, none⟩) LT5.out (.bool true)))
            clear hca hcb hfa hfb hdc hdf HR4 HO BK5 HB0 HDC HDF hx
            go_wp2
            generalize ((wr.setCell ⟨g5, xa.toNat * 6 + xb.toNat, none⟩ (.bool true)).drew) = wb at HR4b HOb BK5b HBb ⊢
            have hc0 := Kd.R_celln 0 HR4b.out z (of_eq_true k0) (of_eq_true k1)
            have hc1 := Kd.R_celln 0 HR4b.out z1 (of_eq_true k2) (of_eq_true k3)
            have hva : rd ws z = xa := HVA.out
            have hvb : rd ws z1 = xb := HVB.out
            have hca : wb.cell? ⟨g4, z.toNat, none⟩ = some (.int .i64 xa) := by rw [← hva]; exact hc0.1
            have hcb : wb.cell? ⟨g4, z1.toNat, none⟩ = some (.int .i64 xb) := by rw [← hvb]; exact hc1.1
            have hfa := hc0.2
            have hfb := hc1.2
            have hc2 := Kd.R_celln 0 (Kd.R_putn HR4b.out z xb) z1 (of_eq_true k2) (of_eq_true k3)
            have hcc := hc2.1
            have hcf := hc2.2
            clear hc0 hc1 hc2 hva hvb
            refine start_ (n := 18) (S := fun w' => w'.cell? ⟨g4, z.toNat, none⟩ = some (.int .i64 xa) ∧ w'.cell? ⟨g4, z1.toNat, none⟩ = some (.int .i64 xb)) (ds := [15, 17]) #[false, false, false, false, false, false, false, false, false, false, false, false, false, false, false, false, false, false] (by kernel_rfl) rfl rfl ⟨hca, hcb⟩ (fun hHeld => ?_); refine with_tabW wg.tab14 wg.bits14 (fun HT_ HW_ => ?_)
            refine pu 0 79 HT_ ?_
            refine pu 1 80 HT_ ?_
            refine pu 2 81 HT_ ?_
            refine pu 3 82 HT_ ?_
            refine pu 4 83 HT_ ?_
            refine pu 5 84 HT_ ?_
            refine pu 6 85 HT_ ?_
            refine pu 7 86 HT_ ?_
            refine pu 8 87 HT_ ?_
            refine pu 10 89 HT_ ?_
            refine pu 11 90 HT_ ?_
            refine pu 12 91 HT_ ?_
            refine take_ (i := 9) (N := some 88) (v := ?_) (a' := ?_) #[true, true, true, true, true, true, true, true, true, true, true, true, true, false, false, false, false, false] rfl rfl (take_ofW HT_.out HW_.out (by kernel_rfl)) (fun _ _ _ h => h) (Or.inl ⟨by rfl, ?_⟩) hHeld ?_ ?_
            rotate_left
            · rintro w' ⟨s0, s1⟩
              go_simp
              with_reducible rfl
            rotate_left
            · simp only [Act.put, List.setIfInBounds_toArray, List.set_cons_zero, List.set_cons_succ, i64_w, i32_w]
              rfl
            refine take_ (i := 13) (N := some 92) (v := ?_) (a' := ?_) #[true, true, true, true, true, true, true, true, true, true, true, true, true, true, false, false, false, false] rfl rfl (take_ofW HT_.out HW_.out (by kernel_rfl)) (fun _ _ _ h => h) (Or.inl ⟨by rfl, ?_⟩) hHeld ?_ ?_
            rotate_left
            · rintro w' ⟨s0, s1⟩
              go_simp
              with_reducible rfl
            rotate_left
            · simp only [Act.put, List.setIfInBounds_toArray, List.set_cons_zero, List.set_cons_succ, i64_w, i32_w]
              rfl
            refine pu 14 93 HT_ ?_
            refine last_ (i := 15) (N := none) #[true, true, true, true, true, true, true, true, true, true, true, true, true, true, true, true, false, false] rfl rfl (one_of HT_.out (by kernel_rfl)) (by decide) (fun K hK => ?_)
            refine skip_ (w1 := ?_) (by rfl) rfl ?_ ?_
            rotate_left
            · go_simp
              rfl
            refine hK.out _ _ ?_
            clear hK K
            refine pu 16 94 HT_ ?_
            refine last_ (i := 17) (N := none) #[true, true, true, true, true, true, true, true, true, true, true, true, true, true, true, true, true, true] rfl rfl (one_of HT_.out (by kernel_rfl)) (by decide) (fun K hK => ?_)
            refine skip_ (w1 := ?_) (by rfl) rfl ?_ ?_
            rotate_left
            · go_simp
              rfl
            refine hK.out _ _ ?_
            clear hK K
            refine done_ (done_of HT_.out (by kernel_rfl)) ?_
            have HR4c := Aside0.mk (show Kd.R (Kd.int .i64) 3 (((wb.setCell ⟨g4, z.toNat, none⟩ (.int .i64 xb)).setCell ⟨g4, z1.toNat, none⟩ (.int .i64 xa)).drew) w.heap.size (fun k => k = g4) (.slice (some ⟨g4, 0, none⟩) ws0.length c4) ws2 from by rw [HWS.out]; exact Kd.R_drew (Kd.R_putn (Kd.R_putn HR4b.out z xb) z1 xa))
            have HOc := Aside0.mk (Kd.R_types (Kd.R_drew (Kd.R_far (Kd.R_far HOb.out (p := ⟨g4, z.toNat, none⟩) (fun k hk => hk) (.int .i64 xb)) (p := ⟨g4, z1.toNat, none⟩) (fun k hk => hk) (.int .i64 xa))) (blk_drew (((Below.heap_setCell _ ⟨g4, z1.toNat, none⟩ (.int .i64 xa) g5 (fun h => NE.out h.symm)).trans (Below.heap_setCell _ ⟨g4, z.toNat, none⟩ (.int .i64 xb) g5 (fun h => NE.out h.symm))).trans BK5b.out)) (by decide))
            have BK5c := Aside0.mk (blk_drew (((Below.heap_setCell _ ⟨g4, z1.toNat, none⟩ (.int .i64 xa) g5 (fun h => NE.out h.symm)).trans (Below.heap_setCell _ ⟨g4, z.toNat, none⟩ (.int .i64 xb) g5 (fun h => NE.out h.symm))).trans BK5b.out))
            have HBc := Aside0.mk (below_drew1 ((HBb.out.setCell (p := ⟨g4, z.toNat, none⟩) G4.out (.int .i64 xb)).setCell (p := ⟨g4, z1.toNat, none⟩) G4.out (.int .i64 xa)))
            clear hca hcb hfa hfb hcc hcf HR4b HOb BK5b HBb
            generalize ((wb.setCell ⟨g4, z.toNat, none⟩ (.int .i64 xb)).setCell ⟨g4, z1.toNat, none⟩ (.int .i64 xa)).drew = wc at HR4c HOc BK5c HBc ⊢
            have LTc := Aside0.mk (show ∀ k, wc.heap.size ≤ k → k ≠ g4 ∧ k ≠ g5 from fun k hk => ⟨fun h => by have := Kd.R_lt HR4c.out g4 rfl; omega, fun h => by have := blk_lt BK5c.out; omega⟩)
            go_wp2_with (first | ((with_reducible refine gate_builtin (b := .append) (xs := #[.tmp 95, .tmp 97]) rfl ?_); at_builtin; refine Kd.R_append (Kd.int .i64) (w0 := w) w.heap.size rfl (.tmp 95) (.tmp 97) 22 3 (.int .i64 0) 8 rfl Try.underlying22 info3 rfl (by decide) (by omega) (.slice A6 o.length c6) o z [.int .i64 z] (fun k => k ≠ g4 ∧ k ≠ g5) (fun _ => False) rfl rfl ?aP (fun _ hk => hk.elim) ?aF ?aO ?aB ?aS ?aL ?_; (case aP => exact rfl); (case aB => exact (bl HBc)); (case aF => exact (fun k hk => LTc.out k (Nat.le_trans (by first | exact Nat.le_refl _ | (simp; done) | (simp; omega)) hk))); (case aO => exact (rr HOc)); (case aS => exact (below_size (bl HBc))); (case aL => have := HZ.out; have := H6.out; omega); intro v7 w7 ho hb hg hat; have HGR := Aside0.mk hg; have HBX := Aside0.mk hb; have HOX := Aside0.mk ho; clear hb ho hg hat))
            go_roundg d
            case measure => have := HZ.out; omega
            case rel =>
              have hne : ∀ k, (Value.slice A6 o.length c6).ownBlock = some k → k ≠ g4 ∧ k ≠ g5 := fun k hk => HOc.out.1 k hk
              refine ⟨ws2, D2, o ++ [z], d, ?_, Nat.le_refl _, HI2, ⟨HRUN2.out⟩, ⟨?_⟩, ⟨?_⟩, ⟨Kd.R_mono HOX.out (fun _ hk => hk.1)⟩, HBX⟩
              · have := HZ.out; rw [List.length_append, List.length_singleton]; omega
              · exact Kd.R_grown2 (rr HR4c) rfl HGR.out (fun k hk he => (hne k hk).1 (by have : some k = some g4 := he; injection this))
              · exact (HGR.out.block g5 (blk_lt (bk BK5c)) (fun he => (hne g5 he.symm).2 rfl)).trans (bk BK5c)
          | false =>
            go_wp2
            refine start_ (n := 12) (S := fun w' => w'.cell? ⟨g4, z.toNat, none⟩ = some (.int .i64 xa) ∧ w'.cell? ⟨g4, z1.toNat, none⟩ = some (.int .i64 xb)) (ds := [11]) #[false, false, false, false, false, false, false, false, false, false, false, false] (by kernel_rfl) rfl rfl ⟨hca, hcb⟩ (fun hHeld => ?_); refine with_tabW wg.tab13 wg.bits13 (fun HT_ HW_ => ?_)
            refine pu 0 68 HT_ ?_
            refine pu 1 69 HT_ ?_
            refine pu 2 70 HT_ ?_
            refine pu 4 72 HT_ ?_
            refine pu 5 73 HT_ ?_
            refine pu 6 74 HT_ ?_
            refine pu 7 75 HT_ ?_
            refine take_ (i := 3) (N := some 71) (v := ?_) (a' := ?_) #[true, true, true, true, true, true, true, true, false, false, false, false] rfl rfl (take_ofW HT_.out HW_.out (by kernel_rfl)) (fun _ _ _ h => h) (Or.inl ⟨by rfl, ?_⟩) hHeld ?_ ?_
            rotate_left
            · rintro w' ⟨s0, s1⟩
              go_simp
              with_reducible rfl
            rotate_left
            · simp only [Act.put, List.setIfInBounds_toArray, List.set_cons_zero, List.set_cons_succ, i64_w, i32_w]
              rfl
            refine pu 9 77 HT_ ?_
            refine take_ (i := 8) (N := some 76) (v := ?_) (a' := ?_) #[true, true, true, true, true, true, true, true, true, true, false, false] rfl rfl (take_ofW HT_.out HW_.out (by kernel_rfl)) (fun _ _ _ h => h) (Or.inl ⟨by rfl, ?_⟩) hHeld ?_ ?_
            rotate_left
            · rintro w' ⟨s0, s1⟩
              go_simp
              with_reducible rfl
            rotate_left
            · simp only [Act.put, List.setIfInBounds_toArray, List.set_cons_zero, List.set_cons_succ, i64_w, i32_w]
              rfl
            refine pu 10 78 HT_ ?_
            refine last_ (i := 11) (N := none) #[true, true, true, true, true, true, true, true, true, true, true, true] rfl rfl (one_of HT_.out (by kernel_rfl)) (by decide) (fun K hK => ?_)
            refine skip_ (w1 := ?_) (by rfl) rfl ?_ ?_
            rotate_left
            · go_simp
              rfl
            refine hK.out _ _ ?_
            clear hK K
            refine done_ (done_of HT_.out (by kernel_rfl)) ?_
            have HR4b := Aside0.mk (Kd.R_drew (Kd.R_set HR4.out BK5.out (by decide) (xa.toNat * 6 + xb.toNat) (.bool true)))
            have HOb := Aside0.mk (Kd.R_drew (Kd.R_set HO.out BK5.out (by decide) (xa.toNat * 6 + xb.toNat) (.bool true)))
            have BK5b := Aside0.mk (show ((wr.setCell ⟨g5, xa.toNat * 6 + xb.toNat, none⟩ (.bool true)).drew).heap[g5]? = some (.cells (tbB D2) 84 (0, 0)) by rw [HDS.out]; exact blk_drew (blk_put BK5.out _ _ (tbB_set _ _ _)))
            have HBb := Aside0.mk (below_drew1 (HB0.out.setCell (p := ⟨g5, xa.toNat * 6 + xb.toNat, none⟩) LT5.out (.bool true)))
            clear hca hcb hfa hfb hdc hdf HR4 HO BK5 HB0 HDC HDF hx
            go_wp2
            generalize ((wr.setCell ⟨g5, xa.toNat * 6 + xb.toNat, none⟩ (.bool true)).drew) = wb at HR4b HOb BK5b HBb ⊢
            have hc0 := Kd.R_celln 0 HR4b.out z (of_eq_true k0) (of_eq_true k1)
            have hc1 := Kd.R_celln 0 HR4b.out z1 (of_eq_true k2) (of_eq_true k3)
            have hva : rd ws z = xa := HVA.out
            have hvb : rd ws z1 = xb := HVB.out
            have hca : wb.cell? ⟨g4, z.toNat, none⟩ = some (.int .i64 xa) := by rw [← hva]; exact hc0.1
            have hcb : wb.cell? ⟨g4, z1.toNat, none⟩ = some (.int .i64 xb) := by rw [← hvb]; exact hc1.1
            have hfa := hc0.2
            have hfb := hc1.2
            have hc2 := Kd.R_celln 0 (Kd.R_putn HR4b.out z xb) z1 (of_eq_true k2) (of_eq_true k3)
            have hcc := hc2.1
            have hcf := hc2.2
            clear hc0 hc1 hc2 hva hvb
            refine start_ (n := 18) (S := fun w' => w'.cell? ⟨g4, z.toNat, none⟩ = some (.int .i64 xa) ∧ w'.cell? ⟨g4, z1.toNat, none⟩ = some (.int .i64 xb)) (ds := [15, 17]) #[false, false, false, false, false, false, false, false, false, false, false, false, false, false, false, false, false, false] (by kernel_rfl) rfl rfl ⟨hca, hcb⟩ (fun hHeld => ?_); refine with_tabW wg.tab14 wg.bits14 (fun HT_ HW_ => ?_)
            refine pu 0 79 HT_ ?_
            refine pu 1 80 HT_ ?_
            refine pu 2 81 HT_ ?_
            refine pu 3 82 HT_ ?_
            refine pu 4 83 HT_ ?_
            refine pu 5 84 HT_ ?_
            refine pu 6 85 HT_ ?_
            refine pu 7 86 HT_ ?_
            refine pu 8 87 HT_ ?_
            refine pu 10 89 HT_ ?_
            refine pu 11 90 HT_ ?_
            refine pu 12 91 HT_ ?_
            refine take_ (i := 9) (N := some 88) (v := ?_) (a' := ?_) #[true, true, true, true, true, true, true, true, true, true, true, true, true, false, false, false, false, false] rfl rfl (take_ofW HT_.out HW_.out (by kernel_rfl)) (fun _ _ _ h => h) (Or.inl ⟨by rfl, ?_⟩) hHeld ?_ ?_
            rotate_left
            · rintro w' ⟨s0, s1⟩
              go_simp
              with_reducible rfl
            rotate_left
            · simp only [Act.put, List.setIfInBounds_toArray, List.set_cons_zero, List.set_cons_succ, i64_w, i32_w]
              rfl
            refine take_ (i := 13) (N := some 92) (v := ?_) (a' := ?_) #[true, true, true, true, true, true, true, true, true, true, true, true, true, true, false, false, false, false] rfl rfl (take_ofW HT_.out HW_.out (by kernel_rfl)) (fun _ _ _ h => h) (Or.inl ⟨by rfl, ?_⟩) hHeld ?_ ?_
            rotate_left
            · rintro w' ⟨s0, s1⟩
              go_simp
              with_reducible rfl
            rotate_left
            · simp only [Act.put, List.setIfInBounds_toArray, List.set_cons_zero, List.set_cons_succ, i64_w, i32_w]
              rfl
            refine pu 14 93 HT_ ?_
            refine last_ (i := 15) (N := none) #[true, true, true, true, true, true, true, true, true, true, true, true, true, true, true, true, false, false] rfl rfl (one_of HT_.out (by kernel_rfl)) (by decide) (fun K hK => ?_)
            refine skip_ (w1 := ?_) (by rfl) rfl ?_ ?_
            rotate_left
            · go_simp
              rfl
            refine hK.out _ _ ?_
            clear hK K
            refine pu 16 94 HT_ ?_
            refine last_ (i := 17) (N := none) #[true, true, true, true, true, true, true, true, true, true, true, true, true, true, true, true, true, true] rfl rfl (one_of HT_.out (by kernel_rfl)) (by decide) (fun K hK => ?_)
            refine skip_ (w1 := ?_) (by rfl) rfl ?_ ?_
            rotate_left
            · go_simp
              rfl
            refine hK.out _ _ ?_
            clear hK K
            refine done_ (done_of HT_.out (by kernel_rfl)) ?_
            have HR4c := Aside0.mk (show Kd.R (Kd.int .i64) 3 (((wb.setCell ⟨g4, z.toNat, none⟩ (.int .i64 xb)).setCell ⟨g4, z1.toNat, none⟩ (.int .i64 xa)).drew) w.heap.size (fun k => k = g4) (.slice (some ⟨g4, 0, none⟩) ws0.length c4) ws2 from by rw [HWS.out]; exact Kd.R_drew (Kd.R_putn (Kd.R_putn HR4b.out z xb) z1 xa))
            have HOc := Aside0.mk (Kd.R_types (Kd.R_drew (Kd.R_far (Kd.R_far HOb.out (p := ⟨g4, z.toNat, none⟩) (fun k hk => hk) (.int .i64 xb)) (p := ⟨g4, z1.toNat, none⟩) (fun k hk => hk) (.int .i64 xa))) (blk_drew (((Below.heap_setCell _ ⟨g4, z1.toNat, none⟩ (.int .i64 xa) g5 (fun h => NE.out h.symm)).trans (Below.heap_setCell _ ⟨g4, z.toNat, none⟩ (.int .i64 xb) g5 (fun h => NE.out h.symm))).trans BK5b.out)) (by decide))
            have BK5c := Aside0.mk (blk_drew (((Below.heap_setCell _ ⟨g4, z1.toNat, none⟩ (.int .i64 xa) g5 (fun h => NE.out h.symm)).trans (Below.heap_setCell _ ⟨g4, z.toNat, none⟩ (.int .i64 xb) g5 (fun h => NE.out h.symm))).trans BK5b.out))
            have HBc := Aside0.mk (below_drew1 ((HBb.out.setCell (p := ⟨g4, z.toNat, none⟩) G4.out (.int .i64 xb)).setCell (p := ⟨g4, z1.toNat, none⟩) G4.out (.int .i64 xa)))
            clear hca hcb hfa hfb hcc hcf HR4b HOb BK5b HBb
            generalize ((wb.setCell ⟨g4, z.toNat, none⟩ (.int .i64 xb)).setCell ⟨g4, z1.toNat, none⟩ (.int .i64 xa)).drew = wc at HR4c HOc BK5c HBc ⊢
            have LTc := Aside0.mk (show ∀ k, wc.heap.size ≤ k → k ≠ g4 ∧ k ≠ g5 from fun k hk => ⟨fun h => by have := Kd.R_lt HR4c.out g4 rfl; omega, fun h => by have := blk_lt BK5c.out; omega⟩)
            go_wp2_with (first | ((with_reducible refine gate_builtin (b := .append) (xs := #[.tmp 95, .tmp 97]) rfl ?_); at_builtin; refine Kd.R_append (Kd.int .i64) (w0 := w) w.heap.size rfl (.tmp 95) (.tmp 97) 22 3 (.int .i64 0) 8 rfl Try.underlying22 info3 rfl (by decide) (by omega) (.slice A6 o.length c6) o z [.int .i64 z] (fun k => k ≠ g4 ∧ k ≠ g5) (fun _ => False) rfl rfl ?aP (fun _ hk => hk.elim) ?aF ?aO ?aB ?aS ?aL ?_; (case aP => exact rfl); (case aB => exact (bl HBc)); (case aF => exact (fun k hk => LTc.out k (Nat.le_trans (by first | exact Nat.le_refl _ | (simp; done) | (simp; omega)) hk))); (case aO => exact (rr HOc)); (case aS => exact (below_size (bl HBc))); (case aL => have := HZ.out; have := H6.out; omega); intro v7 w7 ho hb hg hat; have HGR := Aside0.mk hg; have HBX := Aside0.mk hb; have HOX := Aside0.mk ho; clear hb ho hg hat))
            go_roundg d
            case measure => have := HZ.out; omega
            case rel =>
              have hne : ∀ k, (Value.slice A6 o.length c6).ownBlock = some k → k ≠ g4 ∧ k ≠ g5 := fun k hk => HOc.out.1 k hk
              refine ⟨ws2, D2, o ++ [z], d, ?_, Nat.le_refl _, HI2, ⟨HRUN2.out⟩, ⟨?_⟩, ⟨?_⟩, ⟨Kd.R_mono HOX.out (fun _ hk => hk.1)⟩, HBX⟩
              · have := HZ.out; rw [List.length_append, List.length_singleton]; omega
              · exact Kd.R_grown2 (rr HR4c) rfl HGR.out (fun k hk he => (hne k hk).1 (by have : some k = some g4 := he; injection this))
              · exact (HGR.out.block g5 (blk_lt (bk BK5c)) (fun he => (hne g5 he.symm).2 rfl)).trans (bk BK5c)

end Go.Proofs.Ythibphndihjcaaa.P
