/- impl.chi.mayExchange: what a call of it computes. Conditions: a table of at most six elements, elements below 6. -/
import Derived.Test.YthibphndihjcaaaWAll2
import Derived.Test.YthibphndihjcaaaORev
import Derived.Test.YthibphndihjcaaaOSort
namespace Go.Proofs.Ythibphndihjcaaa.P
open Go.RowKit Go.Proofs.YthibphndihjcaaaW.PrintWords Go.Proofs.YthibphndihjcaaaW.PrintLast Go.Proofs.YthibphndihjcaaaW.PrintMore
set_option linter.unusedVariables false
set_option linter.unusedSimpArgs false

/-- A table of marks as a value. -/
def tbB (L : List Bool) : Array Value := (L.map Value.bool).toArray
theorem tbB_size (L : List Bool) : (tbB L).size = L.length := by simp [tbB]
theorem tbB_get (L : List Bool) (i : Nat) (h : i < L.length) : (tbB L)[i]? = some (.bool (L.getD i false)) := by
  simp [tbB, List.getD_eq_getElem?_getD, List.getElem?_eq_getElem h]
/-- The pairs of three elements in the order of their exchanges. -/
def mayPairs (l : List Int) (x0 x1 x2 : Int) : List (Int × Int) := if rd l (cidx x0 x1 x2) < 0 then [(x1, x2), (x0, x2), (x0, x1)] else [(x0, x1), (x0, x2), (x1, x2)]
/-- Are all pairs ahead of one exchanged? -/
def mayScan (D : List Bool) (a b : Int) : List (Int × Int) → Bool
  | [] => true
  | (y, z) :: r => if y = a ∧ z = b then true else if D.getD (y.toNat * 6 + z.toNat) false = true then mayScan D a b r else false
def mayS (a b x : Int) : List Int := [a, b, x].mergeSort fun x y => decide (x ≤ y)
def may1 (l : List Int) (D : List Bool) (a b x : Int) : Bool := mayScan D a b (mayPairs l ((mayS a b x).getD 0 0) ((mayS a b x).getD 1 0) ((mayS a b x).getD 2 0))
def mayX (l : List Int) (D : List Bool) (a b : Int) (x : Nat) : Bool := decide ((x : Int) = a) || (decide ((x : Int) = b) || may1 l D a b (x : Int))
def mayAll (l : List Int) (D : List Bool) (a b : Int) (n : Nat) : Bool := (List.range n).all (mayX l D a b)
theorem mayS_spec (a b x : Int) (P : Int → Prop) (ha : P a) (hb : P b) (hx : P x) : ∃ y0 y1 y2, mayS a b x = [y0, y1, y2] ∧ P y0 ∧ P y1 ∧ P y2 := by
  have hl : (mayS a b x).length = 3 := by unfold mayS; rw [List.length_mergeSort]; rfl
  have hm : ∀ y ∈ mayS a b x, P y := by
    intro y hy
    have := List.mem_mergeSort.1 hy
    simp only [List.mem_cons, List.not_mem_nil, or_false] at this
    rcases this with rfl | rfl | rfl
    · exact ha
    · exact hb
    · exact hx
  match h : mayS a b x, hl with
  | [y0, y1, y2], _ => exact ⟨y0, y1, y2, rfl, hm y0 (by simp [h]), hm y1 (by simp [h]), hm y2 (by simp [h])⟩
def may.T7 : Bool × List (List Nat × List Nat) := (true, [([], []), ([0], [0]), ([1], [1]), ([], []), ([3], [3]), ([4], [4]), ([2, 5], [2, 5]), ([], []), ([7], [7]), ([8], [8]), ([], []), ([10], [10]), ([11], [11]), ([9, 12], [9, 12]), ([], []), ([14], [14]), ([15], [15]), ([], []), ([17], [17]), ([18], [18]), ([16, 19], [16, 19]), ([6, 13, 20], [6, 13, 20]), ([21, 0, 1, 2, 3, 4, 5, 6, 7, 8, 9, 10, 11, 12, 13, 14, 15, 16, 17, 18, 19, 20, 21], [21])])
def may.B7 : List Nat := [0, 1, 3, 0, 8, 24, 63, 0, 128, 384, 0, 1024, 3072, 8064, 0, 16384, 49152, 0, 131072, 393216, 1032192, 2097151, 4194303]
theorem may.tab7 : rtab .any (opsOf Try.f87 7) = may.T7 := by kernel_rfl
theorem may.bits7 : waitsOk may.T7.2 may.B7 = true := by kernel_rfl
def may.T8 : Bool × List (List Nat × List Nat) := (true, [([], []), ([], []), ([1], [1]), ([2], [2]), ([], []), ([4], [4]), ([5], [5]), ([], []), ([7], [7]), ([8], [8]), ([0], [0]), ([10], [10]), ([11, 3], [3, 11]), ([12, 6], [6, 12]), ([13, 9], [9, 13]), ([14], [14]), ([15], [15])])
def may.B8 : List Nat := [0, 0, 2, 6, 0, 16, 48, 0, 128, 384, 1, 1025, 3087, 7295, 16383, 32767, 65535]
theorem may.tab8 : rtab .any (opsOf Try.f87 8) = may.T8 := by kernel_rfl
theorem may.bits8 : waitsOk may.T8.2 may.B8 = true := by kernel_rfl
def may.T14 : Bool × List (List Nat × List Nat) := (true, [([], []), ([0], [0]), ([], []), ([2], [2]), ([1], [1]), ([4, 3], [3, 4]), ([5], [5]), ([6], [6])])
def may.B14 : List Nat := [0, 1, 0, 4, 3, 31, 63, 127]
theorem may.tab14 : rtab .any (opsOf Try.f87 14) = may.T14 := by kernel_rfl
theorem may.bits14 : waitsOk may.T14.2 may.B14 = true := by kernel_rfl
theorem cidx_ok {x y z : Int} (hx : 0 ≤ x ∧ x < 6) (hy : 0 ≤ y ∧ y < 6) (hz : 0 ≤ z ∧ z < 6) : 0 ≤ cidx x y z ∧ cidx x y z < 344 := by unfold cidx; omega
theorem eqA2 (d : Nat) (w : World) (x0 y0 x1 y1 : Int) :
    (Op.equalIn (d + 2) 116 (.agg #[.int .i64 x0, .int .i64 x1]) (.agg #[.int .i64 y0, .int .i64 y1])).run Try.prog w = .ok (x0 == y0 && (x1 == y1)) w := by
  have hu := Try.underlying116
  have hu3 := Try.underlying3
  rw [Op.equalIn]
  go_simp
  simp only [List.range', List.forIn_cons, List.forIn_nil]
  go_simp
  cases h0 : (x0 == y0) <;> cases h1 : (x1 == y1) <;> simp_all
  all_goals go_simp
attribute [local go_sem high] eqA2
theorem may_at {W : World} {G : Nat} (p0 q0 p1 q1 p2 q2 : Int) (hb : W.heap[G]? = some (.cells #[.int .i64 p0, .int .i64 q0, .int .i64 p1, .int .i64 q1, .int .i64 p2, .int .i64 q2] 116 (0, 0))) (i : Nat) (hi : i < 3) :
    ∃ p q, W.cell? ⟨G, i * 2, none⟩ = some (.int .i64 p) ∧ W.cell? ⟨G, i * 2 + 1, none⟩ = some (.int .i64 q) ∧ ([(p0, q0), (p1, q1), (p2, q2)] : List (Int × Int)).drop i = (p, q) :: ([(p0, q0), (p1, q1), (p2, q2)] : List (Int × Int)).drop (i + 1) ∧ (p, q) ∈ ([(p0, q0), (p1, q1), (p2, q2)] : List (Int × Int)) := by
  have hB := Aside0.mk hb
  match i, hi with
  | 0, _ => exact ⟨p0, q0, bc hB 0, bc hB 1, rfl, by simp⟩
  | 1, _ => exact ⟨p1, q1, bc hB 2, bc hB 3, rfl, by simp⟩
  | 2, _ => exact ⟨p2, q2, bc hB 4, bc hB 5, rfl, by simp⟩
theorem w_succM (i : Nat) (h : i < 4611686018427387904) : wrap64 ((i : Int) + 1) = ((i + 1 : Nat) : Int) := by unfold wrap64; omega
set_option maxHeartbeats 8000000 in
set_option maxRecDepth 100000 in
theorem impl_chi_mayExchange.calls (A0 : Option Addr) (l : List Int) (D : List Bool) (n : Nat) (a b : Int) (w : World) (hC : Kd.C (Kd.int .i64) w A0 l.length l) (hl : 344 ≤ l.length) (hn : rd l 0 = (n : Int)) (h6 : n ≤ 6) (ha : 0 ≤ a ∧ a < 6) (hb : 0 ≤ b ∧ b < 6) (hD : D.length = 36) :
    Calls Try.prog 87 #[.pointer A0, .agg (tbB D), .int .i64 a, .int .i64 b] w fun e w' => e = .returned (.bool (mayAll l D a b n)) ∧ Below w.heap.size w w' := by
  have hu84 := Try.underlying84
  have HC := Aside0.mk hC
  have HL := Aside0.mk hl
  have HN := Aside0.mk hn
  have H6 := Aside0.mk h6
  have HA := Aside0.mk ha
  have HB_ := Aside0.mk hb
  have HD := Aside0.mk hD
  have HB := Aside0.mk (Below.refl w.heap.size w)
  clear hC hl hn h6 ha hb hD
  go_enter Try.func87, Try.ntmps87
  go_wp2_with (first | ((with_reducible refine gate_dst (N := 5) rfl ?_); refine bx 5 (tbB D) 84 ?_; intro g5 hg w5 hbox hb; have BK5 := Aside0.mk hbox; have HB5 := Aside0.mk hb; clear hb hbox hg))
  go_loopg [9] n (fun gg v9 w' => ∃ x : Nat, v9 = .int .i64 x ∧ x ≤ n ∧ n - x ≤ gg ∧ Aside0 (∀ y, y < x → mayX l D a b y = true) ∧ Aside0 (Below w5.heap.size w5 w'))
  case atStart => exact ⟨0, rfl, Nat.zero_le _, by omega, ⟨fun y hy => absurd hy (Nat.not_lt_zero _)⟩, ⟨Below.refl _ _⟩⟩
  case round =>
    obtain ⟨x, rfl, hx, hg, HI, HB0⟩ := hrel
    have q0 : (0 : Int) < (l.length : Int) := by have := HL.out; omega
    obtain ⟨ad, he, hx0⟩ := Kd.at_int (Kd.C_below HC.out (below_then HB5.out HB5.out.size HB0.out)) 0 (by omega) q0
    subst he
    rw [show ((0 : Int)).toNat = 0 from rfl, Addr.add_zero', HN.out] at hx0
    clear q0
    by_cases hlt : x < n
    · have c4 : decide ((x : Int) < (n : Int)) = true := decide_eq_true (by omega)
      obtain ⟨z, hz⟩ : ∃ z : Int, (x : Int) = z := ⟨_, rfl⟩
      obtain ⟨N, hN⟩ : ∃ z : Int, (n : Int) = z := ⟨_, rfl⟩
      rw [hz, hN] at c4
      rw [hN] at hx0
      rw [hz]
      have HZ := Aside0.mk (And.intro hz (And.intro hx (And.intro hg (And.intro hlt hN))))
      clear hz hx hg hlt hN
      by_cases e1 : z = a
      · have e1b : (z == a) = true := beq_iff_eq.mpr e1
        have E1 := Aside0.mk e1
        clear e1
        go_wp2
        go_roundg (n - (x + 1))
        case measure => have := HZ.out; omega
        case rel =>
          have hZ := HZ.out
          exact ⟨x + 1, by rw [← hZ.1, w_succM x (by have := H6.out; omega)], by omega, by omega, ⟨fun y hy => by
            rcases Nat.lt_succ_iff_lt_or_eq.1 hy with h | h
            · exact HI.out y h
            · unfold mayX; rw [h, hZ.1, decide_eq_true E1.out]; rfl⟩, HB0⟩
      · have e1b : (z == a) = false := beq_eq_false_iff_ne.mpr e1
        have E1 := Aside0.mk e1
        clear e1
        by_cases e2 : z = b
        · have e2b : (z == b) = true := beq_iff_eq.mpr e2
          have E2 := Aside0.mk e2
          clear e2
          go_wp2
          go_roundg (n - (x + 1))
          case measure => have := HZ.out; omega
          case rel =>
            have hZ := HZ.out
            exact ⟨x + 1, by rw [← hZ.1, w_succM x (by have := H6.out; omega)], by omega, by omega, ⟨fun y hy => by
              rcases Nat.lt_succ_iff_lt_or_eq.1 hy with h | h
              · exact HI.out y h
              · unfold mayX; rw [h, hZ.1, decide_eq_true E2.out]; simp⟩, HB0⟩
        · have e2b : (z == b) = false := beq_eq_false_iff_ne.mpr e2
          have E2 := Aside0.mk e2
          clear e2
          obtain ⟨y0, y1, y2, hS, hy0, hy1, hy2⟩ := mayS_spec a b z (fun y => 0 ≤ y ∧ y < 6) HA.out HB_.out (by have := HZ.out; have := H6.out; omega)
          have HS := Aside0.mk (show slices_Sort_int_int.f [a, b, z] = some [y0, y1, y2] by unfold slices_Sort_int_int.f; rw [if_pos (by simp)]; exact congrArg some hS)
          have HM := Aside0.mk (show may1 l D a b z = mayScan D a b (mayPairs l y0 y1 y2) by unfold may1; rw [hS]; rfl)
          have HY := Aside0.mk (And.intro hy0 (And.intro hy1 hy2))
          clear hS hy0 hy1 hy2
          go_wp2_with (first | ((with_reducible refine gate_dst (N := 33) rfl ?_); refine Kd.R_lit (Kd.int .i64) (w0 := w5) w5.heap.size 3 ?hg (N := 33) ?hd (xs := ([a, b, z] : List Int)) (inner := [.int .i64 a, .int .i64 b, .int .i64 z]) (ok := fun _ => True) (okp := fun _ => True) ?hr ?hp (fun _ hk => hk) trivial HB0.out HB0.out.size (by simp) ?_; (case hd => rfl); (case hg => rfl); (case hr => first | (go_simp; done) | (go_simp; rfl)); (case hp => exact (Reps.one (show Kd.M (Kd.int .i64) _ _ _ a [.int .i64 a] from rfl) (Reps.one (show Kd.M (Kd.int .i64) _ _ _ b [.int .i64 b] from rfl) (Reps.one (show Kd.M (Kd.int .i64) _ _ _ z [.int .i64 z] from rfl) (Reps.none _ _))))); intro v33 w33 ho hb _ _; have HO33 := Aside0.mk ho; have HB33 := Aside0.mk hb; clear ho hb) | (go_at_call 64; (with_reducible refine (slices_Sort_int_int.calls (fun _ => True) v33 [a, b, z] [y0, y1, y2] w5 w33 HB33.out HO33.out HS.out).mono ?_); rintro e w6 ⟨rfl, ho, hb, _⟩; have HO6 := Aside0.mk (Kd.R_mono ho (ok' := fun _ => True) (fun _ _ => trivial)); have HB6 := Aside0.mk hb; clear ho hb HO33 HB33))
          obtain ⟨g33, c33, rfl, hg33, _, _⟩ := Kd.R_form HO6.out (by simp)
          have G33 := Aside0.mk hg33
          have h0 : w6.cell? ⟨g33, 0, none⟩ = some (.int .i64 y0) := (Kd.R_celln 0 HO6.out 0 (by omega) (by simp)).1
          have h1 : w6.cell? ⟨g33, 1, none⟩ = some (.int .i64 y1) := (Kd.R_celln 0 HO6.out 1 (by omega) (by simp)).1
          have h2 : w6.cell? ⟨g33, 2, none⟩ = some (.int .i64 y2) := (Kd.R_celln 0 HO6.out 2 (by omega) (by simp)).1
          clear hg33 hx0
          go_wp2
          refine start_ (n := 23) (S := fun w' => w'.cell? ⟨g33, 0, none⟩ = some (.int .i64 y0) ∧ w'.cell? ⟨g33, 1, none⟩ = some (.int .i64 y1) ∧ w'.cell? ⟨g33, 2, none⟩ = some (.int .i64 y2)) (ds := []) #[false, false, false, false, false, false, false, false, false, false, false, false, false, false, false, false, false, false, false, false, false, false, false] (by kernel_rfl) rfl rfl ⟨h0, h1, h2⟩ (fun hHeld => ?_); refine with_tabW may.tab7 may.bits7 (fun HT_ HW_ => ?_)
          refine pu 0 36 HT_ ?_
          refine pu 1 37 HT_ ?_
          refine pu 3 39 HT_ ?_
          refine pu 4 40 HT_ ?_
          refine pu 7 43 HT_ ?_
          refine pu 8 44 HT_ ?_
          refine pu 10 46 HT_ ?_
          refine pu 11 47 HT_ ?_
          refine pu 14 50 HT_ ?_
          refine pu 15 51 HT_ ?_
          refine pu 17 53 HT_ ?_
          refine pu 18 54 HT_ ?_
          refine take_ (i := 2) (N := some 38) (v := ?_) (a' := ?_) #[true, true, true, true, true, false, false, true, true, false, true, true, false, false, true, true, false, true, true, false, false, false, false] rfl rfl (take_ofW HT_.out HW_.out (by kernel_rfl)) (fun _ _ _ h => h) (Or.inl ⟨by rfl, ?_⟩) hHeld ?_ ?_
          rotate_left
          · rintro w' ⟨s0, s1, s2⟩
            go_simp
            with_reducible rfl
          rotate_left
          · simp only [Act.put, List.setIfInBounds_toArray, List.set_cons_zero, List.set_cons_succ, i64_w, i32_w]
            rfl
          refine take_ (i := 5) (N := some 41) (v := ?_) (a' := ?_) #[true, true, true, true, true, true, false, true, true, false, true, true, false, false, true, true, false, true, true, false, false, false, false] rfl rfl (take_ofW HT_.out HW_.out (by kernel_rfl)) (fun _ _ _ h => h) (Or.inl ⟨by rfl, ?_⟩) hHeld ?_ ?_
          rotate_left
          · rintro w' ⟨s0, s1, s2⟩
            go_simp
            with_reducible rfl
          rotate_left
          · simp only [Act.put, List.setIfInBounds_toArray, List.set_cons_zero, List.set_cons_succ, i64_w, i32_w]
            rfl
          refine pu 6 42 HT_ ?_
          refine take_ (i := 9) (N := some 45) (v := ?_) (a' := ?_) #[true, true, true, true, true, true, true, true, true, true, true, true, false, false, true, true, false, true, true, false, false, false, false] rfl rfl (take_ofW HT_.out HW_.out (by kernel_rfl)) (fun _ _ _ h => h) (Or.inl ⟨by rfl, ?_⟩) hHeld ?_ ?_
          rotate_left
          · rintro w' ⟨s0, s1, s2⟩
            go_simp
            with_reducible rfl
          rotate_left
          · simp only [Act.put, List.setIfInBounds_toArray, List.set_cons_zero, List.set_cons_succ, i64_w, i32_w]
            rfl
          refine take_ (i := 12) (N := some 48) (v := ?_) (a' := ?_) #[true, true, true, true, true, true, true, true, true, true, true, true, true, false, true, true, false, true, true, false, false, false, false] rfl rfl (take_ofW HT_.out HW_.out (by kernel_rfl)) (fun _ _ _ h => h) (Or.inl ⟨by rfl, ?_⟩) hHeld ?_ ?_
          rotate_left
          · rintro w' ⟨s0, s1, s2⟩
            go_simp
            with_reducible rfl
          rotate_left
          · simp only [Act.put, List.setIfInBounds_toArray, List.set_cons_zero, List.set_cons_succ, i64_w, i32_w]
            rfl
          refine pu 13 49 HT_ ?_
          refine take_ (i := 16) (N := some 52) (v := ?_) (a' := ?_) #[true, true, true, true, true, true, true, true, true, true, true, true, true, true, true, true, true, true, true, false, false, false, false] rfl rfl (take_ofW HT_.out HW_.out (by kernel_rfl)) (fun _ _ _ h => h) (Or.inl ⟨by rfl, ?_⟩) hHeld ?_ ?_
          rotate_left
          · rintro w' ⟨s0, s1, s2⟩
            go_simp
            with_reducible rfl
          rotate_left
          · simp only [Act.put, List.setIfInBounds_toArray, List.set_cons_zero, List.set_cons_succ, i64_w, i32_w]
            rfl
          refine take_ (i := 19) (N := some 55) (v := ?_) (a' := ?_) #[true, true, true, true, true, true, true, true, true, true, true, true, true, true, true, true, true, true, true, true, false, false, false] rfl rfl (take_ofW HT_.out HW_.out (by kernel_rfl)) (fun _ _ _ h => h) (Or.inl ⟨by rfl, ?_⟩) hHeld ?_ ?_
          rotate_left
          · rintro w' ⟨s0, s1, s2⟩
            go_simp
            with_reducible rfl
          rotate_left
          · simp only [Act.put, List.setIfInBounds_toArray, List.set_cons_zero, List.set_cons_succ, i64_w, i32_w]
            rfl
          refine pu 20 56 HT_ ?_
          refine one_ (i := 21) (N := some 57) #[true, true, true, true, true, true, true, true, true, true, true, true, true, true, true, true, true, true, true, true, true, true, false] rfl rfl (one_of HT_.out (by kernel_rfl)) (by decide) (fun K hK => ?_)
          refine value_ (w1 := ?_) (v := ?_) (by rfl) rfl ?_ ?_
          rotate_left 2
          · go_simp
            constructor
            · rfl
            · rfl
          refine hK.out _ _ ⟨((below_alloc (Below.refl _ _) _).cell (World.block_lt_of_cell? _ _ hHeld.1)).trans hHeld.1, ((below_alloc (Below.refl _ _) _).cell (World.block_lt_of_cell? _ _ hHeld.2.1)).trans hHeld.2.1, ((below_alloc (Below.refl _ _) _).cell (World.block_lt_of_cell? _ _ hHeld.2.2)).trans hHeld.2.2⟩ (fun hHeld5 => ?_)
          clear hK K
          refine norm_ (a' := ?_) ?_ ?_
          rotate_left
          · show Act.put _ (some 57) _ = _
            simp only [Act.put, List.setIfInBounds_toArray, List.set_cons_zero, List.set_cons_succ, i64_w, i32_w]
            rfl
          refine pu 22 11 HT_ ?_
          refine done_ (done_of HT_.out (by kernel_rfl)) ?_
          go_wp2
          have hat0 := Kd.at_int HC.out (cidx y0 y1 y2) (cidx_ok HY.out.1 HY.out.2.1 HY.out.2.2).1 (by have h1 := (cidx_ok HY.out.1 HY.out.2.1 HY.out.2.2).2; have h2 := HL.out; exact Int.lt_of_lt_of_le h1 (by exact_mod_cast h2))
          obtain ⟨ad', he', hat⟩ := hat0
          obtain rfl : ad = ad' := Option.some.inj he'
          clear he'
          rw [chi_add] at hat
          have p0 : (0 ≤ y0) = True := eq_true HY.out.1.1
          have p1 : (0 ≤ y1) = True := eq_true HY.out.2.1.1
          have p2 : (0 ≤ y2) = True := eq_true HY.out.2.2.1
          have p3 : (y0 < 7) = True := eq_true (Int.lt_trans HY.out.1.2 (by decide))
          have p4 : (y1 < 7) = True := eq_true (Int.lt_trans HY.out.2.1.2 (by decide))
          have p5 : (y2 < 7) = True := eq_true (Int.lt_trans HY.out.2.2.2 (by decide))
          have BKn := Aside0.mk (blk_drew (blk_new w6 (.cells #[.int .i64 y0, .int .i64 y1, .int .i64 y0, .int .i64 y2, .int .i64 y1, .int .i64 y2] 116 (0, 0))))
          have HB7 := Aside0.mk (below_drew1 (below_alloc (Below.refl w6.heap.size w6) (.cells #[.int .i64 y0, .int .i64 y1, .int .i64 y0, .int .i64 y2, .int .i64 y1, .int .i64 y2] 116 (0, 0))))
          have LT := Aside0.mk (show w5.heap.size ≤ w6.heap.size from HB6.out.size)
          generalize (w6.alloc (.cells #[.int .i64 y0, .int .i64 y1, .int .i64 y0, .int .i64 y2, .int .i64 y1, .int .i64 y2] 116 (0, 0))).drew = w7 at BKn HB7 ⊢
          replace h0 := (HB7.out.cell (World.block_lt_of_cell? _ _ h0)).trans h0
          replace h1 := (HB7.out.cell (World.block_lt_of_cell? _ _ h1)).trans h1
          replace h2 := (HB7.out.cell (World.block_lt_of_cell? _ _ h2)).trans h2
          have hatb : ad.block < w.heap.size := World.block_lt_of_cell? w ⟨ad.block, ad.off + 1 + y0.toNat * 49 + y1.toNat * 7 + y2.toNat, none⟩ hat
          replace hat : w7.cell? ⟨ad.block, ad.off + 1 + y0.toNat * 49 + y1.toNat * 7 + y2.toNat, none⟩ = some (.int .i64 (rd l (cidx y0 y1 y2))) := (HB7.out.cell (p := ⟨ad.block, ad.off + 1 + y0.toNat * 49 + y1.toNat * 7 + y2.toNat, none⟩) (show ad.block < w6.heap.size from Nat.lt_of_lt_of_le hatb (Nat.le_trans HB5.out.size LT.out))).trans ((HB6.out.cell (p := ⟨ad.block, ad.off + 1 + y0.toNat * 49 + y1.toNat * 7 + y2.toNat, none⟩) (show ad.block < w5.heap.size from Nat.lt_of_lt_of_le hatb HB5.out.size)).trans ((HB5.out.cell (p := ⟨ad.block, ad.off + 1 + y0.toNat * 49 + y1.toNat * 7 + y2.toNat, none⟩) (show ad.block < w.heap.size from hatb)).trans hat))
          clear hatb
          replace HB7 := Aside0.mk (below_then HB6.out HB6.out.size HB7.out)
          generalize w6.heap.size = G at BKn LT ⊢
          clear HB6 HO6
          by_cases c8 : rd l (cidx y0 y1 y2) < 0
          · have c8b : decide (rd l (cidx y0 y1 y2) < 0) = true := decide_eq_true c8
            have HM2 := Aside0.mk (show may1 l D a b z = mayScan D a b [(y1, y2), (y0, y2), (y0, y1)] by rw [HM.out]; unfold mayPairs; rw [if_pos c8])
            clear c8 HM
            refine start_ (n := 17) (S := fun w' => w'.cell? ⟨g33, 0, none⟩ = some (.int .i64 y0) ∧ w'.cell? ⟨g33, 1, none⟩ = some (.int .i64 y1) ∧ w'.cell? ⟨g33, 2, none⟩ = some (.int .i64 y2) ∧ w'.cell? ⟨ad.block, ad.off + 1 + y0.toNat * 49 + y1.toNat * 7 + y2.toNat, none⟩ = some (.int .i64 (rd l (cidx y0 y1 y2)))) (ds := []) #[false, false, false, false, false, false, false, false, false, false, false, false, false, false, false, false, false] (by kernel_rfl) rfl rfl ⟨h0, h1, h2, hat⟩ (fun hHeld => ?_); refine with_tabW may.tab8 may.bits8 (fun HT_ HW_ => ?_)
            refine pu 0 58 HT_ ?_
            refine pu 1 59 HT_ ?_
            refine pu 2 60 HT_ ?_
            refine pu 4 62 HT_ ?_
            refine pu 5 63 HT_ ?_
            refine pu 7 65 HT_ ?_
            refine pu 8 66 HT_ ?_
            refine pu 10 68 HT_ ?_
            refine pu 11 69 HT_ ?_
            refine take_ (i := 3) (N := some 61) (v := ?_) (a' := ?_) #[true, true, true, true, true, true, false, true, true, false, true, true, false, false, false, false, false] rfl rfl (take_ofW HT_.out HW_.out (by kernel_rfl)) (fun _ _ _ h => h) (Or.inl ⟨by rfl, ?_⟩) hHeld ?_ ?_
            rotate_left
            · rintro w' ⟨s0, s1, s2, s3⟩
              go_simp
              with_reducible rfl
            rotate_left
            · simp only [Act.put, List.setIfInBounds_toArray, List.set_cons_zero, List.set_cons_succ, i64_w, i32_w]
              rfl
            refine pu 12 70 HT_ ?_
            refine take_ (i := 6) (N := some 64) (v := ?_) (a' := ?_) #[true, true, true, true, true, true, true, true, true, false, true, true, true, false, false, false, false] rfl rfl (take_ofW HT_.out HW_.out (by kernel_rfl)) (fun _ _ _ h => h) (Or.inl ⟨by rfl, ?_⟩) hHeld ?_ ?_
            rotate_left
            · rintro w' ⟨s0, s1, s2, s3⟩
              go_simp
              with_reducible rfl
            rotate_left
            · simp only [Act.put, List.setIfInBounds_toArray, List.set_cons_zero, List.set_cons_succ, i64_w, i32_w]
              rfl
            refine pu 13 71 HT_ ?_
            refine take_ (i := 9) (N := some 67) (v := ?_) (a' := ?_) #[true, true, true, true, true, true, true, true, true, true, true, true, true, true, false, false, false] rfl rfl (take_ofW HT_.out HW_.out (by kernel_rfl)) (fun _ _ _ h => h) (Or.inl ⟨by rfl, ?_⟩) hHeld ?_ ?_
            rotate_left
            · rintro w' ⟨s0, s1, s2, s3⟩
              go_simp
              with_reducible rfl
            rotate_left
            · simp only [Act.put, List.setIfInBounds_toArray, List.set_cons_zero, List.set_cons_succ, i64_w, i32_w]
              rfl
            refine pu 14 72 HT_ ?_
            refine take_ (i := 15) (N := some 73) (v := ?_) (a' := ?_) #[true, true, true, true, true, true, true, true, true, true, true, true, true, true, true, true, false] rfl rfl (take_ofW HT_.out HW_.out (by kernel_rfl)) (fun _ _ _ h => h) (Or.inl ⟨by rfl, ?_⟩) hHeld ?_ ?_
            rotate_left
            · rintro w' ⟨s0, s1, s2, s3⟩
              go_simp
              with_reducible rfl
            rotate_left
            · simp only [Act.put, List.setIfInBounds_toArray, List.set_cons_zero, List.set_cons_succ, i64_w, i32_w]
              rfl
            refine pu 16 74 HT_ ?_
            refine done_ (done_of HT_.out (by kernel_rfl)) ?_
            go_wp2_with (first | (go_at_call 107; refine (rev3.calls G 3 y0 y1 y0 y2 y1 y2 _ (blk_drew BKn.out)).mono ?_; rintro e wA ⟨rfl, hA, hbA⟩; have HX := Aside0.mk hA; have HBA := Aside0.mk ((below_drew1 HB7.out).trans (hbA.mono LT.out)); clear hA hbA))
            clear h0 h1 h2 hat BKn HB7
            generalize hPS : ([(y1, y2), (y0, y2), (y0, y1)] : List (Int × Int)) = PS at HM2
            have HPB := Aside0.mk (show ∀ p q, (p, q) ∈ PS → (0 ≤ p ∧ p < 6) ∧ (0 ≤ q ∧ q < 6) from by
              intro p q hp
              rw [← hPS] at hp
              have hy := HY.out
              simp only [List.mem_cons, List.not_mem_nil, or_false, Prod.mk.injEq] at hp
              rcases hp with ⟨rfl, rfl⟩ | ⟨rfl, rfl⟩ | ⟨rfl, rfl⟩
              · exact ⟨hy.2.1, hy.2.2⟩
              · exact ⟨hy.1, hy.2.2⟩
              · exact ⟨hy.1, hy.2.1⟩)
            have HP3 := Aside0.mk (show PS.length = 3 by rw [← hPS]; rfl)
            have HAT := Aside0.mk (fun i hi => hPS ▸ may_at y1 y2 y0 y2 y0 y1 HX.out i hi)
            clear hPS
            have BK5A := Aside0.mk (show wA.heap[g5]? = some (.cells (tbB D) 84 (0, 0)) from (HBA.out.block g5 (blk_lt BK5.out)).trans BK5.out)
            go_loopg [79] 3 (fun gg v79 w' => ∃ i : Nat, v79 = .int .i64 i ∧ i ≤ 3 ∧ 3 - i ≤ gg ∧ Aside0 (mayScan D a b (PS.drop i) = mayScan D a b PS) ∧ Aside0 (Below wA.heap.size wA w'))
            case atStart => exact ⟨0, rfl, by omega, by omega, ⟨rfl⟩, ⟨Below.refl _ _⟩⟩
            case round =>
              obtain ⟨i, rfl, hi3, hgi, HSC, HBi⟩ := hrel
              have h6' := H6.out
              by_cases hi : i < 3
              · obtain ⟨p, q, hp, hq, hD1, hmem⟩ := HAT.out i hi
                have hpq := HPB.out p q hmem
                have hp' := (HBi.out.cell (World.block_lt_of_cell? _ _ hp)).trans hp
                have hq' := (HBi.out.cell (World.block_lt_of_cell? _ _ hq)).trans hq
                have hSC := HSC.out
                rw [hD1] at hSC
                have HS2 := Aside0.mk hSC
                have hdc : wr.cell? ⟨g5, p.toNat * 6 + q.toNat, none⟩ = some (.bool (D.getD (p.toNat * 6 + q.toNat) false)) := (blk_cell (blk_below BK5A.out HBi.out) _).trans (tbB_get D _ (by have := HD.out; omega))
                have ci : decide ((i : Int) < 3) = true := decide_eq_true (by omega)
                have ci0 : (0 ≤ (i : Int)) = True := eq_true (by omega)
                have ci1 : ((i : Int) < 3) = True := eq_true (by omega)
                have cp0 : (0 ≤ p) = True := eq_true hpq.1.1
                have cp1 : (p < 6) = True := eq_true hpq.1.2
                have cq0 : (0 ≤ q) = True := eq_true hpq.2.1
                have cq1 : (q < 6) = True := eq_true hpq.2.2
                clear hp hq hD1 hmem hpq hSC HSC
                obtain ⟨iz, hiz⟩ : ∃ z : Int, (i : Int) = z := ⟨_, rfl⟩
                have hin : iz.toNat = i := by omega
                rw [← hin] at hp' hq'
                rw [hiz] at ci ci0 ci1 ⊢
                have HI2 := Aside0.mk (And.intro hiz (And.intro hi3 (And.intro hgi hi)))
                clear hiz hi3 hgi hi hin h6'
                by_cases ep : p = a
                · by_cases eq : q = b
                  · have epb : (p == a) = true := beq_iff_eq.mpr ep
                    have eqb : (q == b) = true := beq_iff_eq.mpr eq
                    have HRES := Aside0.mk (show may1 l D a b z = true by rw [HM2.out, ← HS2.out]; simp only [mayScan]; rw [if_pos ⟨ep, eq⟩])
                    clear ep eq
                    go_wp2_with (first | ((with_reducible refine gate_dst (N := 13) rfl ?_); refine bx 13 #[.int .i64 0, .int .i64 0] 116 ?_; intro g13 hg w13 hbox hb; have BK13 := Aside0.mk hbox; have HB13 := Aside0.mk hb; have HG13 := Aside0.mk (show wr.heap.size ≤ g13 by rw [hg]; exact Nat.le_refl _); have hz0 := bc BK13 0; have hz1 := bc BK13 1; have hf0 := bf BK13 0; have hf1 := bf BK13 1; clear hb hbox hg))
                    go_roundg (n - (x + 1))
                    case measure => have := HZ.out; omega
                    case rel =>
                      have hZ := HZ.out
                      exact ⟨x + 1, by rw [← hZ.1, w_succM x (by have := H6.out; omega)], by omega, by omega, ⟨fun y hy => by
                        rcases Nat.lt_succ_iff_lt_or_eq.1 hy with h | h
                        · exact HI.out y h
                        · unfold mayX; rw [h, hZ.1, HRES.out]; simp⟩, ⟨(HBA.out.trans ((HBi.out.mono HBA.out.size).trans ((HB13.out.mono (Nat.le_trans HBA.out.size HBi.out.size)).trans (((Below.refl w5.heap.size w13).setCell (Nat.le_trans HBA.out.size (Nat.le_trans HBi.out.size HG13.out)) _).setCell (Nat.le_trans HBA.out.size (Nat.le_trans HBi.out.size HG13.out)) _))))⟩⟩
                  · have epb : (p == a) = true := beq_iff_eq.mpr ep
                    have eqb : (q == b) = false := beq_eq_false_iff_ne.mpr eq
                    have NE := Aside0.mk (show ¬ (p = a ∧ q = b) from fun h => eq h.2)
                    clear ep eq
                    go_wp2_with (first | ((with_reducible refine gate_dst (N := 13) rfl ?_); refine bx 13 #[.int .i64 0, .int .i64 0] 116 ?_; intro g13 hg w13 hbox hb; have BK13 := Aside0.mk hbox; have HB13 := Aside0.mk hb; have HG13 := Aside0.mk (show wr.heap.size ≤ g13 by rw [hg]; exact Nat.le_refl _); have hz0 := bc BK13 0; have hz1 := bc BK13 1; have hf0 := bf BK13 0; have hf1 := bf BK13 1; clear hb hbox hg))
                    have k0 : ((w13.setCell ⟨g13, 0, none⟩ (.int .i64 p)).setCell ⟨g13, 1, none⟩ (.int .i64 q)).cell? ⟨g13, 0, none⟩ = some (.int .i64 p) := bc (Aside0.mk (blk_put (blk_put BK13.out 0 _ rfl) 1 _ rfl)) 0
                    have k1 : ((w13.setCell ⟨g13, 0, none⟩ (.int .i64 p)).setCell ⟨g13, 1, none⟩ (.int .i64 q)).cell? ⟨g13, 1, none⟩ = some (.int .i64 q) := bc (Aside0.mk (blk_put (blk_put BK13.out 0 _ rfl) 1 _ rfl)) 1
                    have HBN := Aside0.mk (show Below wr.heap.size wr ((w13.setCell ⟨g13, 0, none⟩ (.int .i64 p)).setCell ⟨g13, 1, none⟩ (.int .i64 q)) from (HB13.out.setCell HG13.out _).setCell HG13.out _)
                    have k2 := (HBN.out.cell (World.block_lt_of_cell? _ _ hdc)).trans hdc
                    clear hp' hq' hdc hz0 hz1 hf0 hf1 BK13 HB13
                    generalize (w13.setCell ⟨g13, 0, none⟩ (.int .i64 p)).setCell ⟨g13, 1, none⟩ (.int .i64 q) = w14 at k0 k1 k2 HBN ⊢
                    generalize hdd : D.getD (p.toNat * 6 + q.toNat) false = dd at k2
                    have HDD := Aside0.mk hdd
                    clear hdd
                    refine start_ (n := 8) (S := fun w' => w'.cell? ⟨g13, 0, none⟩ = some (.int .i64 p) ∧ w'.cell? ⟨g13, 1, none⟩ = some (.int .i64 q) ∧ w'.cell? ⟨g5, p.toNat * 6 + q.toNat, none⟩ = some (.bool dd)) (ds := []) #[false, false, false, false, false, false, false, false] (by kernel_rfl) rfl rfl ⟨k0, k1, k2⟩ (fun hHeld => ?_); refine with_tabW may.tab14 may.bits14 (fun HT_ HW_ => ?_)
                    refine pu 0 88 HT_ ?_
                    refine pu 2 90 HT_ ?_
                    refine take_ (i := 1) (N := some 89) (v := ?_) (a' := ?_) #[true, true, true, false, false, false, false, false] rfl rfl (take_ofW HT_.out HW_.out (by kernel_rfl)) (fun _ _ _ h => h) (Or.inl ⟨by rfl, ?_⟩) hHeld ?_ ?_
                    rotate_left
                    · rintro w' ⟨s0, s1, s2⟩
                      go_simp
                      with_reducible rfl
                    rotate_left
                    · simp only [Act.put, List.setIfInBounds_toArray, List.set_cons_zero, List.set_cons_succ, i64_w, i32_w]
                      rfl
                    refine pu 4 92 HT_ ?_
                    refine take_ (i := 3) (N := some 91) (v := ?_) (a' := ?_) #[true, true, true, true, true, false, false, false] rfl rfl (take_ofW HT_.out HW_.out (by kernel_rfl)) (fun _ _ _ h => h) (Or.inl ⟨by rfl, ?_⟩) hHeld ?_ ?_
                    rotate_left
                    · rintro w' ⟨s0, s1, s2⟩
                      go_simp
                      with_reducible rfl
                    rotate_left
                    · simp only [Act.put, List.setIfInBounds_toArray, List.set_cons_zero, List.set_cons_succ, i64_w, i32_w]
                      rfl
                    refine pu 5 93 HT_ ?_
                    refine take_ (i := 6) (N := some 94) (v := ?_) (a' := ?_) #[true, true, true, true, true, true, true, false] rfl rfl (take_ofW HT_.out HW_.out (by kernel_rfl)) (fun _ _ _ h => h) (Or.inl ⟨by rfl, ?_⟩) hHeld ?_ ?_
                    rotate_left
                    · rintro w' ⟨s0, s1, s2⟩
                      go_simp
                      with_reducible rfl
                    rotate_left
                    · simp only [Act.put, List.setIfInBounds_toArray, List.set_cons_zero, List.set_cons_succ, i64_w, i32_w]
                      rfl
                    refine pu 7 95 HT_ ?_
                    refine done_ (done_of HT_.out (by kernel_rfl)) ?_
                    cases dd with
                    | true =>
                      go_wp2
                      go_roundg (3 - (i + 1))
                      case measure => have := HI2.out; omega
                      case rel =>
                        have h2 := HI2.out
                        refine ⟨i + 1, by rw [← h2.1, w_succM i (by omega)], by omega, by omega, ⟨?_⟩, ⟨below_drew1 (below_step HBi.out HBN.out)⟩⟩
                        rw [← HS2.out]
                        simp only [mayScan]
                        rw [if_neg NE.out, HDD.out, if_pos rfl]
                    | false =>
                      have HRES := Aside0.mk (show may1 l D a b z = false by rw [HM2.out, ← HS2.out]; simp only [mayScan]; rw [if_neg NE.out, HDD.out]; rfl)
                      go_wp2
                      go_ret
                      have hz := HZ.out
                      refine ⟨?_, below_then HB5.out HB5.out.size (HBA.out.trans ((below_drew1 (below_step HBi.out HBN.out)).mono HBA.out.size))⟩
                      have : mayAll l D a b n = false := by
                        unfold mayAll
                        rw [List.all_eq_false]
                        refine ⟨x, List.mem_range.2 hz.2.2.2.1, ?_⟩
                        unfold mayX
                        rw [hz.1, HRES.out, decide_eq_false E1.out, decide_eq_false E2.out]
                        simp
                      rw [this]; rfl
                · have epb : (p == a) = false := beq_eq_false_iff_ne.mpr ep
                  have NE := Aside0.mk (show ¬ (p = a ∧ q = b) from fun h => ep h.1)
                  clear ep
                  go_wp2_with (first | ((with_reducible refine gate_dst (N := 13) rfl ?_); refine bx 13 #[.int .i64 0, .int .i64 0] 116 ?_; intro g13 hg w13 hbox hb; have BK13 := Aside0.mk hbox; have HB13 := Aside0.mk hb; have HG13 := Aside0.mk (show wr.heap.size ≤ g13 by rw [hg]; exact Nat.le_refl _); have hz0 := bc BK13 0; have hz1 := bc BK13 1; have hf0 := bf BK13 0; have hf1 := bf BK13 1; clear hb hbox hg))
                  have k0 : ((w13.setCell ⟨g13, 0, none⟩ (.int .i64 p)).setCell ⟨g13, 1, none⟩ (.int .i64 q)).cell? ⟨g13, 0, none⟩ = some (.int .i64 p) := bc (Aside0.mk (blk_put (blk_put BK13.out 0 _ rfl) 1 _ rfl)) 0
                  have k1 : ((w13.setCell ⟨g13, 0, none⟩ (.int .i64 p)).setCell ⟨g13, 1, none⟩ (.int .i64 q)).cell? ⟨g13, 1, none⟩ = some (.int .i64 q) := bc (Aside0.mk (blk_put (blk_put BK13.out 0 _ rfl) 1 _ rfl)) 1
                  have HBN := Aside0.mk (show Below wr.heap.size wr ((w13.setCell ⟨g13, 0, none⟩ (.int .i64 p)).setCell ⟨g13, 1, none⟩ (.int .i64 q)) from (HB13.out.setCell HG13.out _).setCell HG13.out _)
                  have k2 := (HBN.out.cell (World.block_lt_of_cell? _ _ hdc)).trans hdc
                  clear hp' hq' hdc hz0 hz1 hf0 hf1 BK13 HB13
                  generalize (w13.setCell ⟨g13, 0, none⟩ (.int .i64 p)).setCell ⟨g13, 1, none⟩ (.int .i64 q) = w14 at k0 k1 k2 HBN ⊢
                  generalize hdd : D.getD (p.toNat * 6 + q.toNat) false = dd at k2
                  have HDD := Aside0.mk hdd
                  clear hdd
                  refine start_ (n := 8) (S := fun w' => w'.cell? ⟨g13, 0, none⟩ = some (.int .i64 p) ∧ w'.cell? ⟨g13, 1, none⟩ = some (.int .i64 q) ∧ w'.cell? ⟨g5, p.toNat * 6 + q.toNat, none⟩ = some (.bool dd)) (ds := []) #[false, false, false, false, false, false, false, false] (by kernel_rfl) rfl rfl ⟨k0, k1, k2⟩ (fun hHeld => ?_); refine with_tabW may.tab14 may.bits14 (fun HT_ HW_ => ?_)
                  refine pu 0 88 HT_ ?_
                  refine pu 2 90 HT_ ?_
                  refine take_ (i := 1) (N := some 89) (v := ?_) (a' := ?_) #[true, true, true, false, false, false, false, false] rfl rfl (take_ofW HT_.out HW_.out (by kernel_rfl)) (fun _ _ _ h => h) (Or.inl ⟨by rfl, ?_⟩) hHeld ?_ ?_
                  rotate_left
                  · rintro w' ⟨s0, s1, s2⟩
                    go_simp
                    with_reducible rfl
                  rotate_left
                  · simp only [Act.put, List.setIfInBounds_toArray, List.set_cons_zero, List.set_cons_succ, i64_w, i32_w]
                    rfl
                  refine pu 4 92 HT_ ?_
                  refine take_ (i := 3) (N := some 91) (v := ?_) (a' := ?_) #[true, true, true, true, true, false, false, false] rfl rfl (take_ofW HT_.out HW_.out (by kernel_rfl)) (fun _ _ _ h => h) (Or.inl ⟨by rfl, ?_⟩) hHeld ?_ ?_
                  rotate_left
                  · rintro w' ⟨s0, s1, s2⟩
                    go_simp
                    with_reducible rfl
                  rotate_left
                  · simp only [Act.put, List.setIfInBounds_toArray, List.set_cons_zero, List.set_cons_succ, i64_w, i32_w]
                    rfl
                  refine pu 5 93 HT_ ?_
                  refine take_ (i := 6) (N := some 94) (v := ?_) (a' := ?_) #[true, true, true, true, true, true, true, false] rfl rfl (take_ofW HT_.out HW_.out (by kernel_rfl)) (fun _ _ _ h => h) (Or.inl ⟨by rfl, ?_⟩) hHeld ?_ ?_
                  rotate_left
                  · rintro w' ⟨s0, s1, s2⟩
                    go_simp
                    with_reducible rfl
                  rotate_left
                  · simp only [Act.put, List.setIfInBounds_toArray, List.set_cons_zero, List.set_cons_succ, i64_w, i32_w]
                    rfl
                  refine pu 7 95 HT_ ?_
                  refine done_ (done_of HT_.out (by kernel_rfl)) ?_
                  cases dd with
                  | true =>
                    go_wp2
                    go_roundg (3 - (i + 1))
                    case measure => have := HI2.out; omega
                    case rel =>
                      have h2 := HI2.out
                      refine ⟨i + 1, by rw [← h2.1, w_succM i (by omega)], by omega, by omega, ⟨?_⟩, ⟨below_drew1 (below_step HBi.out HBN.out)⟩⟩
                      rw [← HS2.out]
                      simp only [mayScan]
                      rw [if_neg NE.out, HDD.out, if_pos rfl]
                  | false =>
                    have HRES := Aside0.mk (show may1 l D a b z = false by rw [HM2.out, ← HS2.out]; simp only [mayScan]; rw [if_neg NE.out, HDD.out]; rfl)
                    go_wp2
                    go_ret
                    have hz := HZ.out
                    refine ⟨?_, below_then HB5.out HB5.out.size (HBA.out.trans ((below_drew1 (below_step HBi.out HBN.out)).mono HBA.out.size))⟩
                    have : mayAll l D a b n = false := by
                      unfold mayAll
                      rw [List.all_eq_false]
                      refine ⟨x, List.mem_range.2 hz.2.2.2.1, ?_⟩
                      unfold mayX
                      rw [hz.1, HRES.out, decide_eq_false E1.out, decide_eq_false E2.out]
                      simp
                    rw [this]; rfl
              · have ci : decide ((i : Int) < 3) = false := decide_eq_false (by omega)
                have HRES := Aside0.mk (show may1 l D a b z = true by rw [HM2.out, ← HSC.out, List.drop_eq_nil_of_le (by have := HP3.out; omega)]; rfl)
                clear h6'
                go_wp2
                go_roundg (n - (x + 1))
                case measure => have := HZ.out; omega
                case rel =>
                  have hZ := HZ.out
                  exact ⟨x + 1, by rw [← hZ.1, w_succM x (by have := H6.out; omega)], by omega, by omega, ⟨fun y hy => by
                    rcases Nat.lt_succ_iff_lt_or_eq.1 hy with h | h
                    · exact HI.out y h
                    · unfold mayX; rw [h, hZ.1, HRES.out]; simp⟩, ⟨HBA.out.trans (HBi.out.mono HBA.out.size)⟩⟩
          · have c8b : decide (rd l (cidx y0 y1 y2) < 0) = false := decide_eq_false c8
            have HM2 := Aside0.mk (show may1 l D a b z = mayScan D a b [(y0, y1), (y0, y2), (y1, y2)] by rw [HM.out]; unfold mayPairs; rw [if_neg c8])
            clear c8 HM
            refine start_ (n := 17) (S := fun w' => w'.cell? ⟨g33, 0, none⟩ = some (.int .i64 y0) ∧ w'.cell? ⟨g33, 1, none⟩ = some (.int .i64 y1) ∧ w'.cell? ⟨g33, 2, none⟩ = some (.int .i64 y2) ∧ w'.cell? ⟨ad.block, ad.off + 1 + y0.toNat * 49 + y1.toNat * 7 + y2.toNat, none⟩ = some (.int .i64 (rd l (cidx y0 y1 y2)))) (ds := []) #[false, false, false, false, false, false, false, false, false, false, false, false, false, false, false, false, false] (by kernel_rfl) rfl rfl ⟨h0, h1, h2, hat⟩ (fun hHeld => ?_); refine with_tabW may.tab8 may.bits8 (fun HT_ HW_ => ?_)
            refine pu 0 58 HT_ ?_
            refine pu 1 59 HT_ ?_
            refine pu 2 60 HT_ ?_
            refine pu 4 62 HT_ ?_
            refine pu 5 63 HT_ ?_
            refine pu 7 65 HT_ ?_
            refine pu 8 66 HT_ ?_
            refine pu 10 68 HT_ ?_
            refine pu 11 69 HT_ ?_
            refine take_ (i := 3) (N := some 61) (v := ?_) (a' := ?_) #[true, true, true, true, true, true, false, true, true, false, true, true, false, false, false, false, false] rfl rfl (take_ofW HT_.out HW_.out (by kernel_rfl)) (fun _ _ _ h => h) (Or.inl ⟨by rfl, ?_⟩) hHeld ?_ ?_
            rotate_left
            · rintro w' ⟨s0, s1, s2, s3⟩
              go_simp
              with_reducible rfl
            rotate_left
            · simp only [Act.put, List.setIfInBounds_toArray, List.set_cons_zero, List.set_cons_succ, i64_w, i32_w]
              rfl
            refine pu 12 70 HT_ ?_
            refine take_ (i := 6) (N := some 64) (v := ?_) (a' := ?_) #[true, true, true, true, true, true, true, true, true, false, true, true, true, false, false, false, false] rfl rfl (take_ofW HT_.out HW_.out (by kernel_rfl)) (fun _ _ _ h => h) (Or.inl ⟨by rfl, ?_⟩) hHeld ?_ ?_
            rotate_left
            · rintro w' ⟨s0, s1, s2, s3⟩
              go_simp
              with_reducible rfl
            rotate_left
            · simp only [Act.put, List.setIfInBounds_toArray, List.set_cons_zero, List.set_cons_succ, i64_w, i32_w]
              rfl
            refine pu 13 71 HT_ ?_
            refine take_ (i := 9) (N := some 67) (v := ?_) (a' := ?_) #[true, true, true, true, true, true, true, true, true, true, true, true, true, true, false, false, false] rfl rfl (take_ofW HT_.out HW_.out (by kernel_rfl)) (fun _ _ _ h => h) (Or.inl ⟨by rfl, ?_⟩) hHeld ?_ ?_
            rotate_left
            · rintro w' ⟨s0, s1, s2, s3⟩
              go_simp
              with_reducible rfl
            rotate_left
            · simp only [Act.put, List.setIfInBounds_toArray, List.set_cons_zero, List.set_cons_succ, i64_w, i32_w]
              rfl
            refine pu 14 72 HT_ ?_
            refine take_ (i := 15) (N := some 73) (v := ?_) (a' := ?_) #[true, true, true, true, true, true, true, true, true, true, true, true, true, true, true, true, false] rfl rfl (take_ofW HT_.out HW_.out (by kernel_rfl)) (fun _ _ _ h => h) (Or.inl ⟨by rfl, ?_⟩) hHeld ?_ ?_
            rotate_left
            · rintro w' ⟨s0, s1, s2, s3⟩
              go_simp
              with_reducible rfl
            rotate_left
            · simp only [Act.put, List.setIfInBounds_toArray, List.set_cons_zero, List.set_cons_succ, i64_w, i32_w]
              rfl
            refine pu 16 74 HT_ ?_
            refine done_ (done_of HT_.out (by kernel_rfl)) ?_
            go_wp2
            have HX := Aside0.mk (blk_drew BKn.out)
            have HBA := Aside0.mk (below_drew1 HB7.out)
            clear h0 h1 h2 hat BKn HB7
            generalize w7.drew = wA at HX HBA ⊢
            generalize hPS : ([(y0, y1), (y0, y2), (y1, y2)] : List (Int × Int)) = PS at HM2
            have HPB := Aside0.mk (show ∀ p q, (p, q) ∈ PS → (0 ≤ p ∧ p < 6) ∧ (0 ≤ q ∧ q < 6) from by
              intro p q hp
              rw [← hPS] at hp
              have hy := HY.out
              simp only [List.mem_cons, List.not_mem_nil, or_false, Prod.mk.injEq] at hp
              rcases hp with ⟨rfl, rfl⟩ | ⟨rfl, rfl⟩ | ⟨rfl, rfl⟩
              · exact ⟨hy.1, hy.2.1⟩
              · exact ⟨hy.1, hy.2.2⟩
              · exact ⟨hy.2.1, hy.2.2⟩)
            have HP3 := Aside0.mk (show PS.length = 3 by rw [← hPS]; rfl)
            have HAT := Aside0.mk (fun i hi => hPS ▸ may_at y0 y1 y0 y2 y1 y2 HX.out i hi)
            clear hPS
            have BK5A := Aside0.mk (show wA.heap[g5]? = some (.cells (tbB D) 84 (0, 0)) from (HBA.out.block g5 (blk_lt BK5.out)).trans BK5.out)
            go_loopg [79] 3 (fun gg v79 w' => ∃ i : Nat, v79 = .int .i64 i ∧ i ≤ 3 ∧ 3 - i ≤ gg ∧ Aside0 (mayScan D a b (PS.drop i) = mayScan D a b PS) ∧ Aside0 (Below wA.heap.size wA w'))
            case atStart => exact ⟨0, rfl, by omega, by omega, ⟨rfl⟩, ⟨Below.refl _ _⟩⟩
            case round =>
              obtain ⟨i, rfl, hi3, hgi, HSC, HBi⟩ := hrel
              have h6' := H6.out
              by_cases hi : i < 3
              · obtain ⟨p, q, hp, hq, hD1, hmem⟩ := HAT.out i hi
                have hpq := HPB.out p q hmem
                have hp' := (HBi.out.cell (World.block_lt_of_cell? _ _ hp)).trans hp
                have hq' := (HBi.out.cell (World.block_lt_of_cell? _ _ hq)).trans hq
                have hSC := HSC.out
                rw [hD1] at hSC
                have HS2 := Aside0.mk hSC
                have hdc : wr.cell? ⟨g5, p.toNat * 6 + q.toNat, none⟩ = some (.bool (D.getD (p.toNat * 6 + q.toNat) false)) := (blk_cell (blk_below BK5A.out HBi.out) _).trans (tbB_get D _ (by have := HD.out; omega))
                have ci : decide ((i : Int) < 3) = true := decide_eq_true (by omega)
                have ci0 : (0 ≤ (i : Int)) = True := eq_true (by omega)
                have ci1 : ((i : Int) < 3) = True := eq_true (by omega)
                have cp0 : (0 ≤ p) = True := eq_true hpq.1.1
                have cp1 : (p < 6) = True := eq_true hpq.1.2
                have cq0 : (0 ≤ q) = True := eq_true hpq.2.1
                have cq1 : (q < 6) = True := eq_true hpq.2.2
                clear hp hq hD1 hmem hpq hSC HSC
                obtain ⟨iz, hiz⟩ : ∃ z : Int, (i : Int) = z := ⟨_, rfl⟩
                have hin : iz.toNat = i := by omega
                rw [← hin] at hp' hq'
                rw [hiz] at ci ci0 ci1 ⊢
                have HI2 := Aside0.mk (And.intro hiz (And.intro hi3 (And.intro hgi hi)))
                clear hiz hi3 hgi hi hin h6'
                by_cases ep : p = a
                · by_cases eq : q = b
                  · have epb : (p == a) = true := beq_iff_eq.mpr ep
                    have eqb : (q == b) = true := beq_iff_eq.mpr eq
                    have HRES := Aside0.mk (show may1 l D a b z = true by rw [HM2.out, ← HS2.out]; simp only [mayScan]; rw [if_pos ⟨ep, eq⟩])
                    clear ep eq
                    go_wp2_with (first | ((with_reducible refine gate_dst (N := 13) rfl ?_); refine bx 13 #[.int .i64 0, .int .i64 0] 116 ?_; intro g13 hg w13 hbox hb; have BK13 := Aside0.mk hbox; have HB13 := Aside0.mk hb; have HG13 := Aside0.mk (show wr.heap.size ≤ g13 by rw [hg]; exact Nat.le_refl _); have hz0 := bc BK13 0; have hz1 := bc BK13 1; have hf0 := bf BK13 0; have hf1 := bf BK13 1; clear hb hbox hg))
                    go_roundg (n - (x + 1))
                    case measure => have := HZ.out; omega
                    case rel =>
                      have hZ := HZ.out
                      exact ⟨x + 1, by rw [← hZ.1, w_succM x (by have := H6.out; omega)], by omega, by omega, ⟨fun y hy => by
                        rcases Nat.lt_succ_iff_lt_or_eq.1 hy with h | h
                        · exact HI.out y h
                        · unfold mayX; rw [h, hZ.1, HRES.out]; simp⟩, ⟨(HBA.out.trans ((HBi.out.mono HBA.out.size).trans ((HB13.out.mono (Nat.le_trans HBA.out.size HBi.out.size)).trans (((Below.refl w5.heap.size w13).setCell (Nat.le_trans HBA.out.size (Nat.le_trans HBi.out.size HG13.out)) _).setCell (Nat.le_trans HBA.out.size (Nat.le_trans HBi.out.size HG13.out)) _))))⟩⟩
                  · have epb : (p == a) = true := beq_iff_eq.mpr ep
                    have eqb : (q == b) = false := beq_eq_false_iff_ne.mpr eq
                    have NE := Aside0.mk (show ¬ (p = a ∧ q = b) from fun h => eq h.2)
                    clear ep eq
                    go_wp2_with (first | ((with_reducible refine gate_dst (N := 13) rfl ?_); refine bx 13 #[.int .i64 0, .int .i64 0] 116 ?_; intro g13 hg w13 hbox hb; have BK13 := Aside0.mk hbox; have HB13 := Aside0.mk hb; have HG13 := Aside0.mk (show wr.heap.size ≤ g13 by rw [hg]; exact Nat.le_refl _); have hz0 := bc BK13 0; have hz1 := bc BK13 1; have hf0 := bf BK13 0; have hf1 := bf BK13 1; clear hb hbox hg))
                    have k0 : ((w13.setCell ⟨g13, 0, none⟩ (.int .i64 p)).setCell ⟨g13, 1, none⟩ (.int .i64 q)).cell? ⟨g13, 0, none⟩ = some (.int .i64 p) := bc (Aside0.mk (blk_put (blk_put BK13.out 0 _ rfl) 1 _ rfl)) 0
                    have k1 : ((w13.setCell ⟨g13, 0, none⟩ (.int .i64 p)).setCell ⟨g13, 1, none⟩ (.int .i64 q)).cell? ⟨g13, 1, none⟩ = some (.int .i64 q) := bc (Aside0.mk (blk_put (blk_put BK13.out 0 _ rfl) 1 _ rfl)) 1
                    have HBN := Aside0.mk (show Below wr.heap.size wr ((w13.setCell ⟨g13, 0, none⟩ (.int .i64 p)).setCell ⟨g13, 1, none⟩ (.int .i64 q)) from (HB13.out.setCell HG13.out _).setCell HG13.out _)
                    have k2 := (HBN.out.cell (World.block_lt_of_cell? _ _ hdc)).trans hdc
                    clear hp' hq' hdc hz0 hz1 hf0 hf1 BK13 HB13
                    generalize (w13.setCell ⟨g13, 0, none⟩ (.int .i64 p)).setCell ⟨g13, 1, none⟩ (.int .i64 q) = w14 at k0 k1 k2 HBN ⊢
                    generalize hdd : D.getD (p.toNat * 6 + q.toNat) false = dd at k2
                    have HDD := Aside0.mk hdd
                    clear hdd
                    refine start_ (n := 8) (S := fun w' => w'.cell? ⟨g13, 0, none⟩ = some (.int .i64 p) ∧ w'.cell? ⟨g13, 1, none⟩ = some (.int .i64 q) ∧ w'.cell? ⟨g5, p.toNat * 6 + q.toNat, none⟩ = some (.bool dd)) (ds := []) #[false, false, false, false, false, false, false, false] (by kernel_rfl) rfl rfl ⟨k0, k1, k2⟩ (fun hHeld => ?_); refine with_tabW may.tab14 may.bits14 (fun HT_ HW_ => ?_)
                    refine pu 0 88 HT_ ?_
                    refine pu 2 90 HT_ ?_
                    refine take_ (i := 1) (N := some 89) (v := ?_) (a' := ?_) #[true, true, true, false, false, false, false, false] rfl rfl (take_ofW HT_.out HW_.out (by kernel_rfl)) (fun _ _ _ h => h) (Or.inl ⟨by rfl, ?_⟩) hHeld ?_ ?_
                    rotate_left
                    · rintro w' ⟨s0, s1, s2⟩
                      go_simp
                      with_reducible rfl
                    rotate_left
                    · simp only [Act.put, List.setIfInBounds_toArray, List.set_cons_zero, List.set_cons_succ, i64_w, i32_w]
                      rfl
                    refine pu 4 92 HT_ ?_
                    refine take_ (i := 3) (N := some 91) (v := ?_) (a' := ?_) #[true, true, true, true, true, false, false, false] rfl rfl (take_ofW HT_.out HW_.out (by kernel_rfl)) (fun _ _ _ h => h) (Or.inl ⟨by rfl, ?_⟩) hHeld ?_ ?_
                    rotate_left
                    · rintro w' ⟨s0, s1, s2⟩
                      go_simp
                      with_reducible rfl
                    rotate_left
                    · simp only [Act.put, List.setIfInBounds_toArray, List.set_cons_zero, List.set_cons_succ, i64_w, i32_w]
                      rfl
                    refine pu 5 93 HT_ ?_
                    refine take_ (i := 6) (N := some 94) (v := ?_) (a' := ?_) #[true, true, true, true, true, true, true, false] rfl rfl (take_ofW HT_.out HW_.out (by kernel_rfl)) (fun _ _ _ h => h) (Or.inl ⟨by rfl, ?_⟩) hHeld ?_ ?_
                    rotate_left
                    · rintro w' ⟨s0, s1, s2⟩
                      go_simp
                      with_reducible rfl
                    rotate_left
                    · simp only [Act.put, List.setIfInBounds_toArray, List.set_cons_zero, List.set_cons_succ, i64_w, i32_w]
                      rfl
                    refine pu 7 95 HT_ ?_
                    refine done_ (done_of HT_.out (by kernel_rfl)) ?_
                    cases dd with
                    | true =>
                      go_wp2
                      go_roundg (3 - (i + 1))
                      case measure => have := HI2.out; omega
                      case rel =>
                        have h2 := HI2.out
                        refine ⟨i + 1, by rw [← h2.1, w_succM i (by omega)], by omega, by omega, ⟨?_⟩, ⟨below_drew1 (below_step HBi.out HBN.out)⟩⟩
                        rw [← HS2.out]
                        simp only [mayScan]
                        rw [if_neg NE.out, HDD.out, if_pos rfl]
                    | false =>
                      have HRES := Aside0.mk (show may1 l D a b z = false by rw [HM2.out, ← HS2.out]; simp only [mayScan]; rw [if_neg NE.out, HDD.out]; rfl)
                      go_wp2
                      go_ret
                      have hz := HZ.out
                      refine ⟨?_, below_then HB5.out HB5.out.size (HBA.out.trans ((below_drew1 (below_step HBi.out HBN.out)).mono HBA.out.size))⟩
                      have : mayAll l D a b n = false := by
                        unfold mayAll
                        rw [List.all_eq_false]
                        refine ⟨x, List.mem_range.2 hz.2.2.2.1, ?_⟩
                        unfold mayX
                        rw [hz.1, HRES.out, decide_eq_false E1.out, decide_eq_false E2.out]
                        simp
                      rw [this]; rfl
                · have epb : (p == a) = false := beq_eq_false_iff_ne.mpr ep
                  have NE := Aside0.mk (show ¬ (p = a ∧ q = b) from fun h => ep h.1)
                  clear ep
                  go_wp2_with (first | ((with_reducible refine gate_dst (N := 13) rfl ?_); refine bx 13 #[.int .i64 0, .int .i64 0] 116 ?_; intro g13 hg w13 hbox hb; have BK13 := Aside0.mk hbox; have HB13 := Aside0.mk hb; have HG13 := Aside0.mk (show wr.heap.size ≤ g13 by rw [hg]; exact Nat.le_refl _); have hz0 := bc BK13 0; have hz1 := bc BK13 1; have hf0 := bf BK13 0; have hf1 := bf BK13 1; clear hb hbox hg))
                  have k0 : ((w13.setCell ⟨g13, 0, none⟩ (.int .i64 p)).setCell ⟨g13, 1, none⟩ (.int .i64 q)).cell? ⟨g13, 0, none⟩ = some (.int .i64 p) := bc (Aside0.mk (blk_put (blk_put BK13.out 0 _ rfl) 1 _ rfl)) 0
                  have k1 : ((w13.setCell ⟨g13, 0, none⟩ (.int .i64 p)).setCell ⟨g13, 1, none⟩ (.int .i64 q)).cell? ⟨g13, 1, none⟩ = some (.int .i64 q) := bc (Aside0.mk (blk_put (blk_put BK13.out 0 _ rfl) 1 _ rfl)) 1
                  have HBN := Aside0.mk (show Below wr.heap.size wr ((w13.setCell ⟨g13, 0, none⟩ (.int .i64 p)).setCell ⟨g13, 1, none⟩ (.int .i64 q)) from (HB13.out.setCell HG13.out _).setCell HG13.out _)
                  have k2 := (HBN.out.cell (World.block_lt_of_cell? _ _ hdc)).trans hdc
                  clear hp' hq' hdc hz0 hz1 hf0 hf1 BK13 HB13
                  generalize (w13.setCell ⟨g13, 0, none⟩ (.int .i64 p)).setCell ⟨g13, 1, none⟩ (.int .i64 q) = w14 at k0 k1 k2 HBN ⊢
                  generalize hdd : D.getD (p.toNat * 6 + q.toNat) false = dd at k2
                  have HDD := Aside0.mk hdd
                  clear hdd
                  refine start_ (n := 8) (S := fun w' => w'.cell? ⟨g13, 0, none⟩ = some (.int .i64 p) ∧ w'.cell? ⟨g13, 1, none⟩ = some (.int .i64 q) ∧ w'.cell? ⟨g5, p.toNat * 6 + q.toNat, none⟩ = some (.bool dd)) (ds := []) #[false, false, false, false, false, false, false, false] (by kernel_rfl) rfl rfl ⟨k0, k1, k2⟩ (fun hHeld => ?_); refine with_tabW may.tab14 may.bits14 (fun HT_ HW_ => ?_)
                  refine pu 0 88 HT_ ?_
                  refine pu 2 90 HT_ ?_
                  refine take_ (i := 1) (N := some 89) (v := ?_) (a' := ?_) #[true, true, true, false, false, false, false, false] rfl rfl (take_ofW HT_.out HW_.out (by kernel_rfl)) (fun _ _ _ h => h) (Or.inl ⟨by rfl, ?_⟩) hHeld ?_ ?_
                  rotate_left
                  · rintro w' ⟨s0, s1, s2⟩
                    go_simp
                    with_reducible rfl
                  rotate_left
                  · simp only [Act.put, List.setIfInBounds_toArray, List.set_cons_zero, List.set_cons_succ, i64_w, i32_w]
                    rfl
                  refine pu 4 92 HT_ ?_
                  refine take_ (i := 3) (N := some 91) (v := ?_) (a' := ?_) #[true, true, true, true, true, false, false, false] rfl rfl (take_ofW HT_.out HW_.out (by kernel_rfl)) (fun _ _ _ h => h) (Or.inl ⟨by rfl, ?_⟩) hHeld ?_ ?_
                  rotate_left
                  · rintro w' ⟨s0, s1, s2⟩
                    go_simp
                    with_reducible rfl
                  rotate_left
                  · simp only [Act.put, List.setIfInBounds_toArray, List.set_cons_zero, List.set_cons_succ, i64_w, i32_w]
                    rfl
                  refine pu 5 93 HT_ ?_
                  refine take_ (i := 6) (N := some 94) (v := ?_) (a' := ?_) #[true, true, true, true, true, true, true, false] rfl rfl (take_ofW HT_.out HW_.out (by kernel_rfl)) (fun _ _ _ h => h) (Or.inl ⟨by rfl, ?_⟩) hHeld ?_ ?_
                  rotate_left
                  · rintro w' ⟨s0, s1, s2⟩
                    go_simp
                    with_reducible rfl
                  rotate_left
                  · simp only [Act.put, List.setIfInBounds_toArray, List.set_cons_zero, List.set_cons_succ, i64_w, i32_w]
                    rfl
                  refine pu 7 95 HT_ ?_
                  refine done_ (done_of HT_.out (by kernel_rfl)) ?_
                  cases dd with
                  | true =>
                    go_wp2
                    go_roundg (3 - (i + 1))
                    case measure => have := HI2.out; omega
                    case rel =>
                      have h2 := HI2.out
                      refine ⟨i + 1, by rw [← h2.1, w_succM i (by omega)], by omega, by omega, ⟨?_⟩, ⟨below_drew1 (below_step HBi.out HBN.out)⟩⟩
                      rw [← HS2.out]
                      simp only [mayScan]
                      rw [if_neg NE.out, HDD.out, if_pos rfl]
                  | false =>
                    have HRES := Aside0.mk (show may1 l D a b z = false by rw [HM2.out, ← HS2.out]; simp only [mayScan]; rw [if_neg NE.out, HDD.out]; rfl)
                    go_wp2
                    go_ret
                    have hz := HZ.out
                    refine ⟨?_, below_then HB5.out HB5.out.size (HBA.out.trans ((below_drew1 (below_step HBi.out HBN.out)).mono HBA.out.size))⟩
                    have : mayAll l D a b n = false := by
                      unfold mayAll
                      rw [List.all_eq_false]
                      refine ⟨x, List.mem_range.2 hz.2.2.2.1, ?_⟩
                      unfold mayX
                      rw [hz.1, HRES.out, decide_eq_false E1.out, decide_eq_false E2.out]
                      simp
                    rw [this]; rfl
              · have ci : decide ((i : Int) < 3) = false := decide_eq_false (by omega)
                have HRES := Aside0.mk (show may1 l D a b z = true by rw [HM2.out, ← HSC.out, List.drop_eq_nil_of_le (by have := HP3.out; omega)]; rfl)
                clear h6'
                go_wp2
                go_roundg (n - (x + 1))
                case measure => have := HZ.out; omega
                case rel =>
                  have hZ := HZ.out
                  exact ⟨x + 1, by rw [← hZ.1, w_succM x (by have := H6.out; omega)], by omega, by omega, ⟨fun y hy => by
                    rcases Nat.lt_succ_iff_lt_or_eq.1 hy with h | h
                    · exact HI.out y h
                    · unfold mayX; rw [h, hZ.1, HRES.out]; simp⟩, ⟨HBA.out.trans (HBi.out.mono HBA.out.size)⟩⟩
    · have c4 : decide ((x : Int) < (n : Int)) = false := decide_eq_false (by omega)
      obtain rfl : x = n := by omega
      go_wp2
      go_ret
      refine ⟨?_, below_then HB5.out HB5.out.size HB0.out⟩
      have : mayAll l D a b x = true := by
        unfold mayAll
        rw [List.all_eq_true]
        exact fun y hy => HI.out y (List.mem_range.1 hy)
      rw [this]; rfl

end Go.Proofs.Ythibphndihjcaaa.P
