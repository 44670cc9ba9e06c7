/- impl.cellsOf: what a call of it computes. Conditions: three to six wires, a wiring of less than a million exchanges. -/
import Derived.Test.YthibphndihjcaaaWAll2
import Derived.Test.YthibphndihjcaaaOCellC
import Derived.Test.YthibphndihjcaaaP79
namespace Go.Proofs.Ythibphndihjcaaa.P
open Go.RowKit Go.Proofs.YthibphndihjcaaaW.PrintWords Go.Proofs.YthibphndihjcaaaW.PrintLast Go.Proofs.YthibphndihjcaaaW.PrintMore
set_option linter.unusedVariables false
set_option linter.unusedSimpArgs false

/-- The cell that a level begins with. -/
def ceI0 (p : Int) : CE := ⟨0, 0, -1, 0, wrap64 ((shl .i64 1 p) - 1)⟩
def ceI1 (p : Int) : CE := if 0 < p then ceAdd (ceI0 p) (wrap64 (p - 1)) else ceI0 p
def ceI2 (n p : Int) : CE := if p < n then ceAdd (ceI1 p) p else ceI1 p
/-- The cells open at first, the first i of them. -/
def ceN0 (n : Int) (m i : Nat) : List CE := (List.range m).map fun p => if p < i then ceI2 n (p : Int) else ceZ
/-- All cells, the first i levels shut at the end. -/
def ceEnd (k : Int) (now : List CE) (out : List (List CE)) (i : Nat) : List (List CE) := (List.range out.length).map fun p => if p < i then out.getD p [] ++ [ceMark (now.getD p ceZ) k] else out.getD p []
def ceAll (n : Int) (x l1 : List Int) : List (List CE) := let m := n.toNat + 1; let r := ceRun x l1 0 (ceN0 n m m) (List.replicate m []); ceEnd l1.length r.1 r.2 m
def impl_cellsOf.f (k : Nat) (a0 : Int) (l1 : List Int) : Option (List (List CE)) := if 3 ≤ a0 ∧ a0 ≤ 6 ∧ l1.length < 1000000 then (impl_upTo.f k a0).bind fun x => (impl_run.f k a0 l1).bind fun c => if c = true ∧ (x.length : Int) = a0 ∧ ∀ y ∈ x, 0 ≤ y then some (ceAll a0 x l1) else none else none
theorem impl_cellsOf.mono : ∀ a0 a1 k, LeO (impl_cellsOf.f k a0 a1) (impl_cellsOf.f (k + 1) a0 a1) := by
  intro a0 a1 k
  unfold impl_cellsOf.f
  refine LeO.ite ?_ (LeO.none _)
  refine LeO.bind (impl_upTo.mono _ _) (fun x => ?_)
  exact LeO.bind (impl_run.mono _ _ _) (fun c => LeO.refl _)
theorem ceN0_length (n : Int) (m i : Nat) : (ceN0 n m i).length = m := by unfold ceN0; simp
theorem ceSetN_set (l : List CE) (j : Int) (c : CE) (f : CE → CE) (h : j.toNat < l.length) : ceSetN (l.set j.toNat c) j f = l.set j.toNat (f c) := by
  unfold ceSetN
  rw [List.set_set, List.getD_eq_getElem?_getD, List.getElem?_set_self h]; rfl
theorem ceN0_step (n : Int) (m i : Nat) (h : i < m) : (ceN0 n m i).set i (ceI2 n (i : Int)) = ceN0 n m (i + 1) := by
  unfold ceN0
  apply List.ext_getElem
  · simp
  · intro q h1 h2
    simp only [List.length_set, List.length_map, List.length_range] at h1
    rw [List.getElem_set]
    split
    · rename_i he; subst he; simp
    · rename_i he
      simp only [List.getElem_map, List.getElem_range]
      by_cases hq : q < i
      · rw [if_pos hq, if_pos (by omega)]
      · rw [if_neg hq, if_neg (by omega)]
theorem ceN0_zero (n : Int) (m : Nat) : ceN0 n m 0 = List.replicate m ceZ := by
  unfold ceN0
  apply List.ext_getElem
  · simp
  · intro i h1 h2; simp
/-- The open cells at the end, the first i of them marked. -/
def ceM0 (k : Int) (now : List CE) (i : Nat) : List CE := (List.range now.length).map fun p => if p < i then ceMark (now.getD p ceZ) k else now.getD p ceZ
theorem ceM0_zero (k : Int) (now : List CE) : ceM0 k now 0 = now := by
  unfold ceM0
  apply List.ext_getElem
  · simp
  · intro i h1 h2; simp [List.getD_eq_getElem?_getD, h2]
theorem ceEnd_zero (k : Int) (now : List CE) (out : List (List CE)) : ceEnd k now out 0 = out := by
  unfold ceEnd
  apply List.ext_getElem
  · simp
  · intro i h1 h2; simp [List.getD_eq_getElem?_getD, h2]
theorem ceEnd_at (k : Int) (now : List CE) (out : List (List CE)) (j : Nat) : (ceEnd k now out j).getD j [] = out.getD j [] := by
  unfold ceEnd
  rw [List.getD_eq_getElem?_getD, List.getElem?_map]
  by_cases h : j < out.length
  · rw [List.getElem?_range h]; simp
  · rw [List.getElem?_eq_none (by simpa using h), List.getD_eq_getElem?_getD, List.getElem?_eq_none (by omega)]; rfl
theorem ceM0_step (k : Int) (now : List CE) (j : Nat) (h : j < now.length) : (ceM0 k now j).set j (ceMark ((ceM0 k now j).getD j ceZ) k) = ceM0 k now (j + 1) := by
  have h0 : (ceM0 k now j).getD j ceZ = now.getD j ceZ := by
    unfold ceM0
    rw [List.getD_eq_getElem?_getD, List.getElem?_map, List.getElem?_range h]; simp
  rw [h0]
  unfold ceM0
  apply List.ext_getElem
  · simp
  · intro q h1 h2
    rw [List.getElem_set]
    split
    · rename_i he; subst he; simp
    · rename_i he
      simp only [List.getElem_map, List.getElem_range]
      by_cases hq : q < j
      · rw [if_pos hq, if_pos (by omega)]
      · rw [if_neg hq, if_neg (by omega)]
theorem ceEnd_step (k : Int) (now : List CE) (out : List (List CE)) (j : Nat) (h : j < out.length) (h2 : j < now.length) : (ceEnd k now out j).set j ((ceEnd k now out j).getD j [] ++ [(ceM0 k now (j + 1)).getD j ceZ]) = ceEnd k now out (j + 1) := by
  have h0 : (ceM0 k now (j + 1)).getD j ceZ = ceMark (now.getD j ceZ) k := by
    unfold ceM0
    rw [List.getD_eq_getElem?_getD, List.getElem?_map, List.getElem?_range h2]; simp
  rw [h0, ceEnd_at]
  unfold ceEnd
  apply List.ext_getElem
  · simp
  · intro q h1 h2
    rw [List.getElem_set]
    split
    · rename_i he; subst he; simp
    · rename_i he
      simp only [List.getElem_map, List.getElem_range]
      by_cases hq : q < j
      · rw [if_pos hq, if_pos (by omega)]
      · rw [if_neg hq, if_neg (by omega)]
/-- What is kept holds ahead of the first exchange. -/
theorem ceStart0 {k : Nat} {a0 : Int} {x x0 l1 : List Int} {rr : List CE × List (List CE)} {w wr W : World} {v : Value} {m gK gN gO gn go cn co : Nat} (hx : impl_upTo.f k a0 = some x) (hx0 : impl_upTo.f k a0 = some x0) (hxx : (x0.length : Int) = a0 ∧ ∀ y ∈ x0, 0 ≤ y) (hm : a0 = (m : Int) - 1 ∧ 4 ≤ m ∧ m ≤ 7) (hord : (go < gO ∧ gO < gn ∧ gn < gN ∧ gN < gK) ∧ w.heap.size ≤ go) (hgK : gK = wr.heap.size)
    (hrr : ceRun x0 l1 0 (ceN0 a0 m m) (List.replicate m []) = rr) (bn : wr.heap[gN]? = some (.cells #[.slice (some ⟨gn, 0, none⟩) m cn] 56 (0, 0))) (bo : wr.heap[gO]? = some (.cells #[.slice (some ⟨go, 0, none⟩) m co] 54 (0, 0)))
    (hn : Kd.R ceK 58 wr w.heap.size (fun k => k = gn) (.slice (some ⟨gn, 0, none⟩) m cn) (ceN0 a0 m m)) (ho : Kd.S (Kd.slice 58 ceK) 56 wr w.heap.size (fun k => k = go) (.slice (some ⟨go, 0, none⟩) m co) (List.replicate m []))
    (hR : Kd.R (Kd.int .i64) 3 W (wr.alloc (.cells #[.int .i64 0] 3 (0, 0))).heap.size (fun _ => True) v x) (hB : Below (wr.alloc (.cells #[.int .i64 0] 3 (0, 0))).heap.size (wr.alloc (.cells #[.int .i64 0] 3 (0, 0))) W) : ceInv wr.heap.size gN gO gn go m cn co w.heap.size rr l1 v W x 0 := by
  obtain rfl : x0 = x := Option.some.inj (hx0.symm.trans hx)
  have hsz : (wr.alloc (.cells #[.int .i64 0] 3 (0, 0))).heap.size = wr.heap.size + 1 := Array.size_push _
  refine ⟨fun k hk => by have := Kd.R_base hR k hk; omega, hxx.2, by omega, by omega, ceN0 a0 m m, List.replicate m [], blk_below (blk_new wr _) hB, blk_below (blk_alloc bn _) hB, blk_below (blk_alloc bo _) hB, Kd.R_below (Kd.R_alloc hn _) hB, Kd.S_mono (Kd.S_below (Kd.S_alloc ho _) hB) (fun k hk => .inl hk), ?_, by simpa using hrr⟩
  intro y hy
  rw [List.eq_of_mem_replicate hy]; simp
def ceM.T18 : Bool × List (List Nat × List Nat) := (true, [([], []), ([], []), ([], []), ([], []), ([2, 3], [2, 3]), ([4], [4]), ([], []), ([], []), ([6, 7], [6, 7]), ([8], [8]), ([9], [9]), ([5, 10], [5, 10]), ([0, 1, 0, 1, 2, 3, 4, 5, 6, 7, 8, 9, 10, 11], [0, 1]), ([12, 11, 11, 0, 1, 2, 3, 4, 5, 6, 7, 8, 9, 10, 11], [11, 12])])
def ceM.B18 : List Nat := [0, 0, 0, 0, 12, 28, 0, 0, 192, 448, 960, 2044, 4095, 8191]
theorem ceM.tab18 : rtab .any (opsOf Try.f54 18) = ceM.T18 := by kernel_rfl
theorem ceM.bits18 : waitsOk ceM.T18.2 ceM.B18 = true := by kernel_rfl
def ceM.T6 : Bool × List (List Nat × List Nat) := (true, [([], []), ([], []), ([], []), ([2], [2]), ([3], [3]), ([0, 1, 0, 1, 2, 3, 4], [0, 1]), ([5, 4, 3, 0, 1, 2, 3, 4], [4, 5])])
def ceM.B6 : List Nat := [0, 0, 0, 4, 12, 31, 63]
theorem ceM.tab6 : rtab .any (opsOf Try.f54 6) = ceM.T6 := by kernel_rfl
theorem ceM.bits6 : waitsOk ceM.T6.2 ceM.B6 = true := by kernel_rfl
def ceM.T8 : Bool × List (List Nat × List Nat) := (true, [([], []), ([], []), ([], []), ([], []), ([], []), ([], []), ([4, 5], [4, 5]), ([6], [6]), ([7], [7]), ([8], [8]), ([], []), ([], []), ([10, 11], [10, 11]), ([12], [12]), ([13], [13]), ([], []), ([15], [15]), ([16], [16]), ([14, 17], [14, 17]), ([0, 1, 0, 1, 4, 5, 6, 7, 8, 9, 14], [0, 1]), ([19, 0, 1, 4, 5, 6, 7, 8, 9, 14], [19]), ([20, 9, 0, 1, 4, 5, 6, 7, 8, 9, 14], [9, 20]), ([2, 3, 0, 1, 2, 3, 4, 5, 6, 7, 8, 9, 10, 11, 12, 13, 14, 15, 16, 17, 18, 19, 20, 21], [2, 3]), ([22, 0, 1, 2, 3, 4, 5, 6, 7, 8, 9, 10, 11, 12, 13, 14, 15, 16, 17, 18, 19, 20, 21], [22]), ([23, 18, 21, 0, 1, 2, 3, 4, 5, 6, 7, 8, 9, 10, 11, 12, 13, 14, 15, 16, 17, 18, 19, 20, 21], [18, 23])])
def ceM.B8 : List Nat := [0, 0, 0, 0, 0, 0, 48, 112, 240, 496, 0, 0, 3072, 7168, 15360, 0, 32768, 98304, 261120, 32755, 557043, 1605619, 4194303, 8388607, 16777215]
theorem ceM.tab8 : rtab .any (opsOf Try.f54 8) = ceM.T8 := by kernel_rfl
theorem ceM.bits8 : waitsOk ceM.T8.2 ceM.B8 = true := by kernel_rfl
def ceM.T10 : Bool × List (List Nat × List Nat) := (true, [([], []), ([], []), ([], []), ([], []), ([], []), ([], []), ([4, 5], [4, 5]), ([6], [6]), ([7], [7]), ([8], [8]), ([], []), ([], []), ([10, 11], [10, 11]), ([12], [12]), ([13], [13]), ([], []), ([15], [15]), ([14, 16], [14, 16]), ([0, 1, 0, 1, 4, 5, 6, 7, 8, 9, 14], [0, 1]), ([18, 0, 1, 4, 5, 6, 7, 8, 9, 14], [18]), ([19, 9, 0, 1, 4, 5, 6, 7, 8, 9, 14], [9, 19]), ([2, 3, 0, 1, 2, 3, 4, 5, 6, 7, 8, 9, 10, 11, 12, 13, 14, 15, 16, 17, 18, 19, 20], [2, 3]), ([21, 0, 1, 2, 3, 4, 5, 6, 7, 8, 9, 10, 11, 12, 13, 14, 15, 16, 17, 18, 19, 20], [21]), ([22, 17, 20, 0, 1, 2, 3, 4, 5, 6, 7, 8, 9, 10, 11, 12, 13, 14, 15, 16, 17, 18, 19, 20], [17, 22])])
def ceM.B10 : List Nat := [0, 0, 0, 0, 0, 0, 48, 112, 240, 496, 0, 0, 3072, 7168, 15360, 0, 32768, 130048, 32755, 294899, 819187, 2097151, 4194303, 8388607]
theorem ceM.tab10 : rtab .any (opsOf Try.f54 10) = ceM.T10 := by kernel_rfl
theorem ceM.bits10 : waitsOk ceM.T10.2 ceM.B10 = true := by kernel_rfl
set_option maxHeartbeats 8000000 in
set_option maxRecDepth 100000 in
theorem impl_cellsOf.calls (k : Nat) (a0 : Int) (A1 : Option Addr) (c1 : Nat) (l1 : List Int) (r : List (List CE)) (w : World) (hr1 : Kd.C (Kd.int .i64) w A1 l1.length l1) (hc1 : l1.length ≤ c1) (h : impl_cellsOf.f k a0 l1 = some r) :
    Calls Try.prog 54 #[.int .i64 a0, .slice A1 l1.length c1] w fun e w' => ∃ v0_ : Value, e = .returned (v0_) ∧ Kd.S (Kd.slice 58 ceK) 56 w' w.heap.size (fun _ => True) v0_ r ∧ Below w.heap.size w w' := by
  unfold impl_cellsOf.f at h
  by_cases hn : 3 ≤ a0 ∧ a0 ≤ 6 ∧ l1.length < 1000000
  case neg => rw [if_neg hn] at h; exact absurd h (by simp)
  rw [if_pos hn] at h
  obtain ⟨x, hx, h⟩ := Option.bind_eq_some_iff.mp h
  obtain ⟨b, hb, h⟩ := Option.bind_eq_some_iff.mp h
  by_cases hc : b = true ∧ (x.length : Int) = a0 ∧ ∀ y ∈ x, 0 ≤ y
  case neg => rw [if_neg hc] at h; exact absurd h (by simp)
  rw [if_pos hc] at h
  obtain ⟨rfl, hxl, hx0⟩ := hc
  have HE := Aside0.mk (Option.some.inj h)
  have HNB := Aside0.mk hn
  have HX := Aside0.mk hx
  have HRUN := Aside0.mk hb
  have HX0 := Aside0.mk (And.intro hxl hx0)
  have HR1 := Aside0.mk hr1
  have HC1 := Aside0.mk hc1
  obtain ⟨m, hm⟩ : ∃ m : Nat, m = a0.toNat + 1 := ⟨_, rfl⟩
  have hm1 : wrap64 (a0 + 1) = (m : Int) := by unfold wrap64; omega
  have hm2 : IntKind.i64.wrap (a0 + 1) = (m : Int) := (i64_w _).trans hm1
  have hm3 : (0 ≤ (m : Int)) = True := eq_true (by omega)
  have HM := Aside0.mk (show a0 = (m : Int) - 1 ∧ 4 ≤ m ∧ m ≤ 7 from by omega)
  have hmf : ∀ (fn : Fn) (first cap : Array Value) (w : World), (Instr.makeFunc fn first cap).run Try.prog w = .ok (.func fn first cap) w := fun _ _ _ _ => rfl
  clear hr1 hc1 h hn hx hb hxl hx0 hm
  go_enter Try.func54, Try.ntmps54
  go_wp2_with (first
    | ((with_reducible refine gate_dst (N := 12) rfl ?_); refine Kd.S_make (Kd.slice 58 ceK) w.heap.size 56 rfl (N := 12) rfl 54 _ _ rfl (m : Int) rfl rfl Try.underlying54 (.slice none 0 0) 24 (by kernel_rfl) rfl (by decide) (by omega) ([] : List CE) (ok := fun k => k = w.heap.size) (okp := fun _ => False) ⟨_, rfl, Kd.R_nil _ _ _ _ _⟩ (fun _ h_ => h_.elim) rfl (Int.natCast_nonneg _) (by have := HM.out; rw [Int.toNat_natCast]; omega) (Below.refl _ _) (Nat.le_refl _) ?_; intro v12 w12 ho hb hg hnew; rw [Int.toNat_natCast] at ho; obtain ⟨go, co, e12, hg1, hg2, _⟩ := Kd.S_form ho (by rw [List.length_replicate]; have := HM.out; omega); subst e12; rw [List.length_replicate] at ho ⊢; have HO := Aside0.mk ho; have HB := Aside0.mk hb; have HGO := Aside0.mk (And.intro hg1 hg2); clear ho hb hg hnew hg1 hg2)
    | ((with_reducible refine gate_dst (N := 15) rfl ?_); refine Kd.R_make ceK _ 58 rfl (N := 15) rfl 56 _ _ rfl (m : Int) rfl rfl Try.underlying56 (.agg #[.int .i64 0, .int .i64 0, .int .i64 0, .int .i64 0, .int .i64 0]) 40 (by kernel_rfl) rfl (by decide) (by omega) ceZ (ok := fun _ => True) (okp := fun _ => False) (k58_mkM _ _ _ _) (fun _ h_ => h_.elim) trivial (Int.natCast_nonneg _) (by have := HM.out; rw [Int.toNat_natCast]; omega) (Below.refl _ _) (Nat.le_refl _) ?_; intro v15 w15 ho hb hg hnew; rw [Int.toNat_natCast] at ho; obtain ⟨gn, cn, e15, hg1, hg2, _⟩ := Kd.R_form ho (by rw [List.length_replicate]; have := HM.out; omega); subst e15; rw [List.length_replicate] at ho ⊢; have HNW := Aside0.mk ho; have HBN := Aside0.mk hb; have HGN := Aside0.mk (And.intro hg1 hg2); clear ho hb hg hnew hg1 hg2))
  obtain ⟨gO, hgO⟩ : ∃ z, z = w12.heap.size := ⟨_, rfl⟩
  obtain ⟨gN, hgN⟩ : ∃ z, z = w15.heap.size := ⟨_, rfl⟩
  have HBO0 := blk_below (blk_new w12 (.cells #[.slice (some ⟨go, 0, none⟩) m co] 54 (0, 0))) HBN.out
  have hsz1 : (w12.alloc (.cells #[.slice (some ⟨go, 0, none⟩) m co] 54 (0, 0))).heap.size = w12.heap.size + 1 := Array.size_push _
  rw [← hgO] at HBO0
  have ord1 : go < gO ∧ gO < gn ∧ gn < gN ∧ w.heap.size ≤ go := by have := HGO.out; have := HGN.out; rw [hsz1] at this; omega
  have n1_ := Aside0.mk (show (w15.alloc (.cells #[.slice (some ⟨gn, 0, none⟩) m cn] 56 (0, 0))).heap[gN]? = some (.cells #[.slice (some ⟨gn, 0, none⟩) m cn] 56 (0, 0)) by rw [hgN]; exact blk_new _ _)
  have n2_ := Aside0.mk (blk_alloc HBO0 (.cells #[.slice (some ⟨gn, 0, none⟩) m cn] 56 (0, 0)))
  have n3_ := Aside0.mk (Kd.R_alloc (Kd.R_lower (Kd.R_mono (Kd.R_tight rfl HNW.out) (ok' := fun k => k = gn) (fun k hk => by have : some k = some gn := hk; injection this)) (show w.heap.size ≤ _ by rw [hsz1]; omega)) (.cells #[.slice (some ⟨gn, 0, none⟩) m cn] 56 (0, 0)))
  have n4_ := Aside0.mk (Kd.S_alloc (Kd.S_below (Kd.S_alloc (Kd.S_mono HO.out (ok' := fun k => k = go) (fun k hk => by have h_ := (Kd.S_R HO.out).1 go rfl; exact hk.trans h_.symm)) _) HBN.out) (.cells #[.slice (some ⟨gn, 0, none⟩) m cn] 56 (0, 0)))
  have n6_ := Aside0.mk (below_alloc (below_step (below_alloc HB.out _) HBN.out) (.cells #[.slice (some ⟨gn, 0, none⟩) m cn] 56 (0, 0)))
  clear HO HB HGO HNW HBN HGN HBO0 hsz1
  generalize w15.alloc (.cells #[.slice (some ⟨gn, 0, none⟩) m cn] 56 (0, 0)) = w16 at n1_ n2_ n3_ n4_ n6_ ⊢
  have BN := n1_
  have BO := n2_
  have HN := n3_
  have HO := n4_
  have HB := n6_
  rw [← hgN, ← hgO]
  have HORD := Aside0.mk ord1
  have NE := Aside0.mk (show gN ≠ gn ∧ gO ≠ gn ∧ go ≠ gn ∧ w.heap.size ≤ gn from by omega)
  clear n1_ n2_ n3_ n4_ n6_ ord1 hgN hgO
  go_loopg [18] m (fun gg v18 w' => ∃ i : Nat, v18 = .int .i64 i ∧ i ≤ m ∧ m - i ≤ gg ∧ Aside0 (w'.heap[gN]? = some (.cells #[.slice (some ⟨gn, 0, none⟩) m cn] 56 (0, 0))) ∧ Aside0 (w'.heap[gO]? = some (.cells #[.slice (some ⟨go, 0, none⟩) m co] 54 (0, 0))) ∧ Aside0 (Kd.R ceK 58 w' w.heap.size (fun k => k = gn) (.slice (some ⟨gn, 0, none⟩) m cn) (ceN0 a0 m i)) ∧ Aside0 (Kd.S (Kd.slice 58 ceK) 56 w' w.heap.size (fun k => k = go) (.slice (some ⟨go, 0, none⟩) m co) (List.replicate m [])) ∧ Aside0 (Below w.heap.size w w'))
  case atStart => exact ⟨0, rfl, Nat.zero_le _, by omega, BN, BO, ⟨by rw [ceN0_zero]; exact HN.out⟩, HO, HB⟩
  case round =>
    clear BN BO HN HO HB
    obtain ⟨i, rfl, him, hgg, BN, BO, HN, HO, HB⟩ := hrel
    by_cases hi : i < m
    case neg =>
      have hdi : decide ((i : Int) < (m : Int)) = false := decide_eq_false (by omega)
      obtain rfl : i = m := by omega
      clear him hgg hi
      obtain ⟨rr, hrr⟩ : ∃ z, ceRun x l1 0 (ceN0 a0 i i) (List.replicate i []) = z := ⟨_, rfl⟩
      have HRR := Aside0.mk hrr
      clear hrr
      obtain ⟨gK, hgK⟩ : ∃ z, z = wr.heap.size := ⟨_, rfl⟩
      have HGK := Aside0.mk hgK
      have hord : (go < gO ∧ gO < gn ∧ gn < gN ∧ gN < gK) ∧ w.heap.size ≤ go := by
        have := HORD.out
        have := blk_lt BN.out
        omega
      have HORDK := Aside0.mk hord
      clear hord hgK
      go_wp2_with (first | (go_at_call 77; refine (runC.calls k a0 _ _ _ A1 c1 l1 w _ (ceInv wr.heap.size gN gO gn go i cn co w.heap.size rr l1) ?hd ?hs ?h0 ?hcl ?hb HR1.out HC1.out HRUN.out).mono ?_; (case hd => (rintro v W y q ⟨e1, e2, e3, e4, nw, ot, e5, e6, e7, e8, e9, e10, e11⟩; exact ⟨e1, e2, e3, e4, nw, ot, blk_drew e5, blk_drew e6, blk_drew e7, Kd.R_drew e8, Kd.S_drew e9, e10, e11⟩)); (case hs => (rintro g n c W y q o u ⟨e1, e2, e3, e4, nw, ot, e5, e6, e7, e8, e9, e10, e11⟩; have e0 := e1 g rfl; have eo := HORDK.out; have eg := HGK.out; exact ⟨e1, e2, e3, e4, nw, ot, blk_far e5 (by show wr.heap.size ≠ g; omega) _, blk_far e6 (by show gN ≠ g; omega) _, blk_far e7 (by show gO ≠ g; omega) _, Kd.R_far e8 (fun k hk => by show k ≠ g; omega) _, Kd.S_far e9 (fun k hk => by show k ≠ g; (rcases hk with hk | ⟨_, hk⟩); omega; exact fun he => hk (by rw [he]; rfl)) _, e10, e11⟩)); (case h0 => (intro v W y hy hR hB; exact ceStart0 hy HX.out HX0.out HM.out HORDK.out HGK.out HRR.out BN.out BO.out HN.out HO.out hR hB)); (case hcl => exact ceC.asks wr.heap.size gN gO gn go i cn co rr l1 w (by rw [← HGK.out]; exact HORDK.out.1) HORDK.out.2 HNB.out.2.2); (case hb => exact below_alloc HB.out _); rintro e w6 ⟨rfl, ⟨v, y, q, ⟨e1, e2, e3, e4, nw, ot, e5, e6, e7, e8, e9, e10, e11⟩, hq⟩, hb⟩; rw [← HGK.out] at e5; have BK2 := Aside0.mk e5; have BN2 := Aside0.mk e6; have BO2 := Aside0.mk e7; have HN2 := Aside0.mk e8; have HO2 := Aside0.mk (Kd.S_mono e9 (ok' := fun k => k = go ∨ gK < k) (fun k hk => by rw [HGK.out]; exact hk.imp id (fun h => h.1))); have HB2 := Aside0.mk hb; have HQ2 := Aside0.mk (And.intro e4 (And.intro hq (And.intro e10 e11))); clear e1 e2 e3 e4 e5 e6 e7 e8 e9 e10 e11 hq hb; have hcN2 := bc BN2 0))
      clear hcN2 BN BO HN HO HB hdi
      obtain ⟨K, hK0⟩ : ∃ z : Int, q = z := ⟨_, rfl⟩
      have hql : q = (l1.length : Int) := by obtain ⟨h1, h2, _⟩ := HQ2.out; omega
      have HLEN := Aside0.mk (show ot.length = i ∧ nw.length = i ∧ ∀ y ∈ ot, y.length < 1000000 from by
        obtain ⟨h1, h2, h3, h4⟩ := HQ2.out
        have h5 := (Kd.S_reads' HO2.out).1
        have h6 := (Kd.R_reads' HN2.out).1
        refine ⟨h5.symm, h6.symm, fun y hy => ?_⟩
        have := h3 y hy
        have := HNB.out
        omega)
      have HR2 := Aside0.mk (show ceEnd (l1.length : Int) nw ot i = r from by
        obtain ⟨h1, h2, h3, h4⟩ := HQ2.out
        rw [List.drop_eq_nil_of_le (by omega)] at h4
        have h5 := HE.out
        unfold ceAll at h5
        have h6 : a0.toNat + 1 = i := by have := HM.out; omega
        simp only [h6, HRR.out, ← h4, ceRun] at h5
        exact h5)
      subst hK0
      rw [hql] at BK2
      clear HQ2 HRR HE hql
      have hk0K := HGK.out
      rw [← hk0K]
      clear hk0K
      go_loopg [84] i (fun gg v84 w' => ∃ j : Nat, v84 = .int .i64 j ∧ j ≤ i ∧ i - j ≤ gg ∧ Aside0 (w'.heap[gK]? = some (.cells #[.int .i64 (l1.length : Int)] 3 (0, 0))) ∧ Aside0 (w'.heap[gN]? = some (.cells #[.slice (some ⟨gn, 0, none⟩) i cn] 56 (0, 0))) ∧ Aside0 (w'.heap[gO]? = some (.cells #[.slice (some ⟨go, 0, none⟩) i co] 54 (0, 0))) ∧ Aside0 (Kd.R ceK 58 w' w.heap.size (fun k => k = gn) (.slice (some ⟨gn, 0, none⟩) i cn) (ceM0 (l1.length : Int) nw j)) ∧ Aside0 (Kd.S (Kd.slice 58 ceK) 56 w' w.heap.size (fun k => k = go ∨ gK < k) (.slice (some ⟨go, 0, none⟩) i co) (ceEnd (l1.length : Int) nw ot j)) ∧ Aside0 (Below w.heap.size w w'))
      case atStart => exact ⟨0, rfl, Nat.zero_le _, by omega, BK2, BN2, BO2, ⟨by rw [ceM0_zero]; exact HN2.out⟩, ⟨by rw [ceEnd_zero]; exact HO2.out⟩, HB2⟩
      case round =>
        clear BK2 BN2 BO2 HN2 HO2 HB2
        obtain ⟨j, rfl, hji, hjg, BK, BN, BO, HN, HO, HB⟩ := hrel
        by_cases hj : j < i
        case neg =>
          have hdj : decide ((j : Int) < (i : Int)) = false := decide_eq_false (by omega)
          obtain rfl : j = i := by omega
          have hov := bc BO 0
          go_wp2
          go_ret
          exact ⟨_, rfl, by rw [← HR2.out]; exact Kd.S_mono HO.out (fun _ _ => trivial), HB.out⟩
        case pos =>
          obtain ⟨J, hJ⟩ : ∃ z : Int, (j : Int) = z := ⟨_, rfl⟩
          rw [hJ]
          have hdj : decide (J < (i : Int)) = true := decide_eq_true (by omega)
          have j0 : 0 ≤ J := by omega
          have j1 : J < (i : Int) := by omega
          have j0t := eq_true j0
          have j1t := eq_true j1
          have HJ := Aside0.mk (And.intro hj (And.intro hji hjg))
          have HZJ := Aside0.mk hJ
          have NEO := Aside0.mk (show ∀ k, (k = go ∨ gK < k) → k ≠ gn from fun k hk => by have := HORDK.out; omega)
          have HRLEN := Aside0.mk (show ((ceEnd (l1.length : Int) nw ot j).getD J.toNat []).length < 1000000 from by
            rw [show J.toNat = j by omega, ceEnd_at]
            exact getD_of (P := fun y : List CE => y.length < 1000000) HLEN.out.2.2 (by simp) _)
          clear hJ hj hji hjg
          have hcN := bc BN 0
          have hcK := bc BK 0
          go_wp2_with (first | ((with_reducible refine gate_store (t := 3) (p := 91) rfl ?_); refine ce_stL (seg := [.int .i64 (l1.length : Int)]) J 3 (ceMark ((ceM0 (l1.length : Int) nw j).getD J.toNat ceZ) (l1.length : Int)) rfl rfl 3 (.tmp 91) (.tmp 89) rfl HN.out j0 j1 rfl rfl rfl rfl (by kernel_rfl) (by simp [Value.oneCell']) (Nat.le_of_ble_eq_true rfl) rfl ?_; intro w3 hn hg; have NN := Aside0.mk hn; clear hn))
          clear hcN hcK
          have n0_ := Aside0.mk (blk_grown BK.out hg (fun h_ => by have := Option.some.inj h_; have := HORDK.out; omega)); have n1_ := Aside0.mk (blk_grown BN.out hg (fun h_ => NE.out.1 (Option.some.inj h_))); have n2_ := Aside0.mk (blk_grown BO.out hg (fun h_ => NE.out.2.1 (Option.some.inj h_))); have n4_ := Aside0.mk (Kd.S_grown HO.out hg (fun k hk h_ => NEO.out k hk (Option.some.inj h_))); have n6_ := Aside0.mk (HB.out.grown hg HB.out.size (fun k hk => by have := NE.out.2.2.2; injection hk with hk; omega)); clear BK BN BO HO HB hg; have BK := n0_; have BN := n1_; have BO := n2_; have HO := n4_; have HB := n6_; clear n0_ n1_ n2_ n4_ n6_
          obtain ⟨N1, hN1⟩ : ∃ z : List CE, z = ceM0 (l1.length : Int) nw (j + 1) := ⟨_, rfl⟩
          have HN := Aside0.mk (show Kd.R ceK 58 w3 w.heap.size (fun k => k = gn) (.slice (some ⟨gn, 0, none⟩) i cn) N1 by rw [hN1, ← ceM0_step (l1.length : Int) nw j (by have := HLEN.out; have := HJ.out; omega)]; have h_ := NN.out; rw [show J.toNat = j by have := HZJ.out; omega] at h_; exact h_)
          have EN1 := Aside0.mk hN1
          clear NN hN1
          obtain ⟨c1', hc1'⟩ : ∃ z : CE, N1.getD J.toNat ceZ = z := ⟨_, rfl⟩
          obtain ⟨oki, cs, hcl, ⟨vr, rfl, hRr⟩, hcc, hoki, hH⟩ := Kd.S_lend HO.out [] J j0 j1
          obtain ⟨row, hrow⟩ : ∃ z : List CE, (ceEnd (l1.length : Int) nw ot j).getD J.toNat [] = z := ⟨_, rfl⟩
          rw [hrow] at hRr
          obtain ⟨Ar, cr, er⟩ := Kd.R_slice hRr
          subst er
          have hc0 := hcc 0 _ rfl
          simp only [show (Kd.slice 58 ceK).sz = 1 from rfl, Nat.mul_one, Nat.add_zero] at hc0
          have hk := ce_at HN.out J j0 j1
          rw [hc1'] at hk
          have hk0 := hk 0 _ rfl
          have hk1 := hk 1 _ rfl
          have hk2 := hk 2 _ rfl
          have hk3 := hk 3 _ rfl
          have hk4 := hk 4 _ rfl
          simp only [Nat.add_zero] at hk0
          have hnv := bc BN 0
          have hov := bc BO 0
          have HRr := Aside0.mk hRr
          have HH := Aside0.mk (Kd.H_widen hH)
          have HOKI := Aside0.mk hoki
          have HROW := Aside0.mk hrow
          have HCC := Aside0.mk hc1'
          clear hcl hRr hcc hoki hH hrow hk hc1'
          refine start_ (n := 14) (S := fun w' => w'.cell? ⟨gO, 0, none⟩ = some (.slice (some ⟨go, 0, none⟩) i co) ∧ w'.cell? ⟨gN, 0, none⟩ = some (.slice (some ⟨gn, 0, none⟩) i cn) ∧ w'.cell? ⟨go, J.toNat, none⟩ = some (.slice Ar row.length cr) ∧ w'.cell? ⟨gn, J.toNat * 5, none⟩ = some (.int .i64 c1'.f0) ∧ w'.cell? ⟨gn, J.toNat * 5 + 1, none⟩ = some (.int .i64 c1'.f1) ∧ w'.cell? ⟨gn, J.toNat * 5 + 2, none⟩ = some (.int .i64 c1'.f2) ∧ w'.cell? ⟨gn, J.toNat * 5 + 3, none⟩ = some (.int .i64 c1'.f3) ∧ w'.cell? ⟨gn, J.toNat * 5 + 4, none⟩ = some (.int .i64 c1'.f4)) (ds := [13]) #[false, false, false, false, false, false, false, false, false, false, false, false, false, false] (by kernel_rfl) rfl rfl ⟨hov, hnv, hc0, hk0, hk1, hk2, hk3, hk4⟩ (fun hHeld => ?_); refine with_tabW ceM.tab18 ceM.bits18 (fun HT_ HW_ => ?_)
          have n0_ := Aside0.mk (blk_drew BK.out)
          have n1_ := Aside0.mk (blk_drew BN.out)
          have n2_ := Aside0.mk (blk_drew BO.out)
          have n3_ := Aside0.mk (Kd.R_drew HN.out)
          have n4_ := Aside0.mk (Kd.H_drew HH.out)
          have n6_ := Aside0.mk (below_drew1 HB.out)
          have n7_ := Aside0.mk (Kd.R_drew HRr.out)
          clear BK BN BO HN HO HH HB HRr hov hnv hc0 hk0 hk1 hk2 hk3 hk4
          rw [show w3.heap.size = w3.drew.heap.size from rfl] at n4_
          generalize w3.drew = w4 at n0_ n1_ n2_ n3_ n4_ n6_ n7_ hHeld ⊢
          have BK := n0_
          have BN := n1_
          have BO := n2_
          have HN := n3_
          have HH := n4_
          have HB := n6_
          have HRr := n7_
          clear n0_ n1_ n2_ n3_ n4_ n6_ n7_
          refine pu 1 93 HT_ ?_
          refine pu 3 95 HT_ ?_
          refine pu 7 99 HT_ ?_
          refine tk 0 92 HT_ HW_ hHeld ?_
          refine tk 2 94 HT_ HW_ hHeld ?_
          refine pu 4 96 HT_ ?_
          refine tk 5 97 HT_ HW_ hHeld ?_
          refine tk 6 98 HT_ HW_ hHeld ?_
          refine pu 8 100 HT_ ?_
          refine tk 9 101 HT_ HW_ hHeld ?_
          refine one_ (i := 10) (N := some 102) #[true, true, true, true, true, true, true, true, true, true, true, false, false, false] rfl rfl (one_of HT_.out (by kernel_rfl)) (by decide) (fun K hK => ?_)
          refine value_ (w1 := ?_) (v := ?_) (by rfl) rfl ?_ ?_
          rotate_left 2
          · go_simp
            constructor
            · rfl
            · rfl
          refine hK.out _ _ (by obtain ⟨s0, s1, s2, s3, s4, s5, s6, s7⟩ := hHeld; exact ⟨cell_alloc s0 _, cell_alloc s1 _, cell_alloc s2 _, cell_alloc s3 _, cell_alloc s4 _, cell_alloc s5 _, cell_alloc s6 _, cell_alloc s7 _⟩) (fun _ => ?_)
          clear hK K
          refine norm_ (a' := ?_) ?_ ?_
          rotate_left
          · show Act.put _ (some 102) _ = _
            simp only [Act.put, List.setIfInBounds_toArray, List.set_cons_zero, List.set_cons_succ, i64_w, i32_w]
            rfl
          have HROWB := Aside0.mk (show ∀ k, (Value.slice Ar row.length cr).ownBlock = some k → gK < k from fun k hk => by
            obtain ⟨h1, h2⟩ := HOKI.out k (HRr.out.1 k hk)
            rcases h1 with h1 | h1
            · exact absurd h1 h2
            · exact h1)
          have HRL := Aside0.mk (show row.length < 1000000 from by rw [← HROW.out]; exact HRLEN.out)
          have HLT := Aside0.mk (blk_lt BK.out)
          refine one_ (i := 11) (N := some 103) #[true, true, true, true, true, true, true, true, true, true, true, true, false, false] rfl rfl (one_of HT_.out (by kernel_rfl)) (by decide) (fun K hK => ?_)
          refine Kd.R_append_step ceK (w0 := w) w.heap.size (by rfl) (.tmp 97) (.tmp 102) 56 58 (.agg #[.int .i64 0, .int .i64 0, .int .i64 0, .int .i64 0, .int .i64 0]) 40 rfl Try.underlying56 (by kernel_rfl) rfl (by decide) (by omega) (.slice Ar row.length cr) row c1' (ceC c1') (fun k => oki k ∨ (k = go ∨ gK < k) ∧ w4.heap.size ≤ k) (fun _ => False) rfl rfl (k58_mkM _ _ _ _) (fun _ h_ => h_.elim) ?aF (Kd.R_mono HRr.out (fun k hk => .inl hk)) HB.out HB.out.size ?aL ?_
          (case aF => exact (fun k hk => .inr ⟨.inr (by have := HLT.out; omega), hk⟩))
          (case aL => have := HRL.out; omega)
          intro v5 w5 hr5 hb5 hg5 hat5
          obtain ⟨A5, c5, e5⟩ := Kd.R_slice hr5
          subst e5
          have ne5 : ∀ bb : Nat, bb ≤ gK → some bb ≠ (Value.slice Ar row.length cr).ownBlock := fun bb hb_ he => by have := HROWB.out bb he.symm; omega
          have ord := HORDK.out
          have HELD2 : w5.cell? ⟨gO, 0, none⟩ = some (.slice (some ⟨go, 0, none⟩) i co) ∧ w5.cell? ⟨gN, 0, none⟩ = some (.slice (some ⟨gn, 0, none⟩) i cn) ∧ w5.cell? ⟨go, J.toNat, none⟩ = some (.slice Ar row.length cr) ∧ w5.cell? ⟨gn, J.toNat * 5, none⟩ = some (.int .i64 c1'.f0) ∧ w5.cell? ⟨gn, J.toNat * 5 + 1, none⟩ = some (.int .i64 c1'.f1) ∧ w5.cell? ⟨gn, J.toNat * 5 + 2, none⟩ = some (.int .i64 c1'.f2) ∧ w5.cell? ⟨gn, J.toNat * 5 + 3, none⟩ = some (.int .i64 c1'.f3) ∧ w5.cell? ⟨gn, J.toNat * 5 + 4, none⟩ = some (.int .i64 c1'.f4) := by
            obtain ⟨s0, s1, s2, s3, s4, s5, s6, s7⟩ := hHeld
            exact ⟨cell_grown s0 hg5 (ne5 gO (by omega)), cell_grown s1 hg5 (ne5 gN (by omega)), cell_grown s2 hg5 (ne5 go (by omega)), cell_grown s3 hg5 (ne5 gn (by omega)), cell_grown s4 hg5 (ne5 gn (by omega)), cell_grown s5 hg5 (ne5 gn (by omega)), cell_grown s6 hg5 (ne5 gn (by omega)), cell_grown s7 hg5 (ne5 gn (by omega))⟩
          have n0_ := Aside0.mk (blk_grown BK.out hg5 (ne5 gK (Nat.le_refl _)))
          have n1_ := Aside0.mk (blk_grown BN.out hg5 (ne5 gN (by omega)))
          have n2_ := Aside0.mk (blk_grown BO.out hg5 (ne5 gO (by omega)))
          have n3_ := Aside0.mk (Kd.R_grown HN.out hg5 (fun k hk => by subst hk; exact ne5 k (by omega)))
          have n4_ := Aside0.mk (Kd.H_grown HH.out hg5 (fun k hk => .inl (HRr.out.1 k hk)))
          have n6_ := Aside0.mk hb5
          have n7_ := Aside0.mk hr5
          clear BK BN BO HN HH HB HRr hr5 hb5 hg5 hat5 ord ne5 hHeld
          have BK := n0_
          have BN := n1_
          have BO := n2_
          have HN := n3_
          have HH := n4_
          have HB := n6_
          have HR5 := n7_
          clear n0_ n1_ n2_ n3_ n4_ n6_ n7_
          refine hK.out _ _ HELD2 (fun hHeld => ?_)
          clear hK K HELD2
          refine norm_ (a' := ?_) ?_ ?_
          rotate_left
          · show Act.put _ (some 103) _ = _
            simp only [Act.put, List.setIfInBounds_toArray, List.set_cons_zero, List.set_cons_succ, i64_w, i32_w]
            rfl
          refine pu 12 104 HT_ ?_
          refine last_ (i := 13) (N := none) #[true, true, true, true, true, true, true, true, true, true, true, true, true, true] rfl rfl (one_of HT_.out (by kernel_rfl)) (by decide) (fun K hK => ?_)
          refine st_lent (Kd.slice 58 ceK) (by rfl) rfl 56 (.tmp 104) (.tmp 103) rfl J 0 (row ++ [c1']) (seg := [.slice A5 (row ++ [c1']).length c5]) (okp := (fun k => oki k ∨ (k = go ∨ gK < k) ∧ w4.heap.size ≤ k)) rfl (by show _ = J.toNat * 1 + 0; omega) rfl rfl (by kernel_rfl) (by simp [Value.oneCell']) HH.out j0 j1 (Nat.le_refl _) ⟨_, rfl, HR5.out⟩ (fun _ hk => hk) ?gO ?_
          (case gO =>
            intro k hk
            have := HLT.out
            have ord := HORDK.out
            rcases hk with hk | ⟨hk, h2⟩
            · exact (HOKI.out k hk).2
            · omega)
          intro w6' hs hg
          have ord := HORDK.out
          have n0_ := Aside0.mk (blk_grown BK.out hg (fun h_ => by have := Option.some.inj h_; omega))
          have n1_ := Aside0.mk (blk_grown BN.out hg (fun h_ => by have := Option.some.inj h_; omega))
          have n2_ := Aside0.mk (blk_grown BO.out hg (fun h_ => by have := Option.some.inj h_; omega))
          have n3_ := Aside0.mk (Kd.R_grown HN.out hg (fun k hk h_ => by have := Option.some.inj h_; omega))
          have n6_ := Aside0.mk (HB.out.grown hg HB.out.size (fun k hk => by injection hk with hk; omega))
          have n4_ := Aside0.mk hs
          clear BK BN BO HN HH HB HR5 hs hg ord hHeld
          have BK := n0_
          have BN := n1_
          have BO := n2_
          have HN := n3_
          have HO := n4_
          have HB := n6_
          clear n0_ n1_ n2_ n3_ n4_ n6_
          refine hK.out _ _ ?_
          clear hK K
          refine done_ (done_of HT_.out (by kernel_rfl)) ?_
          clear HT_ HW_
          go_wp2
          go_roundg (i - (j + 1))
          case measure => have := HJ.out; omega
          case rel =>
            have hw : wrap64 (J + 1) = ((j + 1 : Nat) : Int) := by have := HJ.out; have := HM.out; have := HZJ.out; unfold wrap64; omega
            have hE1 : (ceEnd (l1.length : Int) nw ot j).set J.toNat (row ++ [c1']) = ceEnd (l1.length : Int) nw ot (j + 1) := by
              rw [← HROW.out, ← HCC.out, EN1.out]
              have h1 := HLEN.out
              have h2 := HJ.out
              rw [show J.toNat = j by have := HZJ.out; omega]
              exact ceEnd_step (l1.length : Int) nw ot j (by omega) (by omega)
            exact ⟨j + 1, by first | rfl | (rw [hw]; done) | exact congrArg (Value.int .i64) hw, HJ.out.1, Nat.le_refl _, BK, BN, BO, ⟨by rw [← EN1.out]; exact HN.out⟩, ⟨by rw [← hE1]; exact HO.out⟩, HB⟩
    case pos =>
      obtain ⟨I, hI⟩ : ∃ z : Int, (i : Int) = z := ⟨_, rfl⟩
      rw [hI]
      have hdi : decide (I < (m : Int)) = true := decide_eq_true (by omega)
      have i0 : 0 ≤ I := by omega
      have i1 : I < (m : Int) := by omega
      have i0t := eq_true i0
      have i1t := eq_true i1
      have HI := Aside0.mk (And.intro hi (And.intro him hgg))
      have HZI := Aside0.mk hI
      have HFS := Aside0.mk (show impl_fullSet.f I = some (wrap64 ((shl .i64 1 I) - 1)) by unfold impl_fullSet.f; rw [if_pos i0])
      clear hI hi him hgg
      go_wp2
      have hnv := bc BN 0
      refine start_ (n := 7) (S := fun w' => w'.cell? ⟨gN, 0, none⟩ = some (.slice (some ⟨gn, 0, none⟩) m cn)) (ds := [6]) #[false, false, false, false, false, false, false] (by kernel_rfl) rfl rfl hnv (fun hHeld => ?_); refine with_tabW ceM.tab6 ceM.bits6 (fun HT_ HW_ => ?_)
      have n1_ := Aside0.mk (blk_drew BN.out)
      have n2_ := Aside0.mk (blk_drew BO.out)
      have n3_ := Aside0.mk (Kd.R_drew HN.out)
      have n4_ := Aside0.mk (Kd.S_drew HO.out)
      have n6_ := Aside0.mk (below_drew1 HB.out)
      clear BN BO HN HO HB hnv
      generalize wr.drew = w21 at n1_ n2_ n3_ n4_ n6_ hHeld ⊢
      have BN := n1_
      have BO := n2_
      have HN := n3_
      have HO := n4_
      have HB := n6_
      clear n1_ n2_ n3_ n4_ n6_
      refine pu 1 22 HT_ ?_
      refine pu 2 23 HT_ ?_
      refine tk 0 21 HT_ HW_ hHeld ?_
      refine one_ (i := 3) (N := some 24) #[true, true, true, true, false, false, false] rfl rfl (one_of HT_.out (by kernel_rfl)) (by decide) (fun K hK => ?_)
      refine goes_ Try.func79 (by kernel_rfl) rfl #[.int .i64 I] (by rfl) rfl rfl (by (try simp only [List.map_toArray, List.map_cons, List.map_nil]); first | done | rfl) ?_
      (with_reducible refine (impl_fullSet.calls I _ _ (HFS.out)).mono ?_)
      rintro e w' ⟨rfl, ⟨nd, rfl⟩⟩
      refine ⟨_, rfl, ?_⟩
      refine hK.out _ _ hHeld (fun hHeld => ?_)
      clear hK K
      have n1_ := Aside0.mk (blk_drewN BN.out nd)
      have n2_ := Aside0.mk (blk_drewN BO.out nd)
      have n3_ := Aside0.mk (Kd.R_drewN HN.out nd)
      have n4_ := Aside0.mk (Kd.S_drewN HO.out nd)
      have n6_ := Aside0.mk (pw_below_drewN HB.out nd)
      clear BN BO HN HO HB
      generalize w21.drewN nd = wd at n1_ n2_ n3_ n4_ n6_ hHeld ⊢
      have BN := n1_
      have BO := n2_
      have HN := n3_
      have HO := n4_
      have HB := n6_
      clear n1_ n2_ n3_ n4_ n6_
      refine norm_ (a' := ?_) ?_ ?_
      rotate_left
      · show Act.put _ (some 24) _ = _
        simp only [Act.put, List.setIfInBounds_toArray, List.set_cons_zero, List.set_cons_succ, i64_w, i32_w]
        rfl
      refine pu 4 25 HT_ ?_
      refine pu 5 26 HT_ ?_
      refine last_ (i := 6) (N := none) #[true, true, true, true, true, true, true] rfl rfl (one_of HT_.out (by kernel_rfl)) (by decide) (fun K hK => ?_)
      refine ce_stD (seg := ceC (ceI0 I)) I 0 (ceI0 I) (by rfl) rfl 58 (.tmp 26) (.tmp 25) rfl HN.out i0 i1 rfl rfl rfl rfl (show _ = some 5 from by kernel_rfl) (ceC_one _) (Nat.le_refl 5) rfl ?_
      intro w22 hn hg
      have n1_ := Aside0.mk (blk_grown BN.out hg (fun h_ => NE.out.1 (Option.some.inj h_))); have n2_ := Aside0.mk (blk_grown BO.out hg (fun h_ => NE.out.2.1 (Option.some.inj h_))); have n4_ := Aside0.mk (Kd.S_grown HO.out hg (fun k hk h_ => NE.out.2.2.1 (hk.symm.trans (Option.some.inj h_)))); have n6_ := Aside0.mk (HB.out.grown hg HB.out.size (fun k hk => by have := NE.out.2.2.2; injection hk with hk; omega)); clear BN BO HO HB hg; have BN := n1_; have BO := n2_; have HO := n4_; have HB := n6_; clear n1_ n2_ n4_ n6_
      obtain ⟨N1, hNq⟩ : ∃ z : List CE, z = (ceN0 a0 m i).set I.toNat (ceI0 I) := ⟨_, rfl⟩
      rw [← hNq] at hn
      have HN := Aside0.mk hn
      have EN1 := Aside0.mk hNq
      clear hn hNq hHeld
      refine hK.out _ _ ?_
      clear hK K
      refine done_ (done_of HT_.out (by kernel_rfl)) ?_
      clear HT_ HW_
      by_cases hp : 0 < I
      case pos =>
        have hpd : decide (0 < I) = true := decide_eq_true hp
        obtain ⟨ip, hip⟩ : ∃ z : Int, wrap64 (I - 1) = z := ⟨_, rfl⟩
        have hipw : IntKind.i64.wrap (I - 1) = ip := (i64_w _).trans hip
        have hip0 : (0 ≤ ip) = True := eq_true (by rw [← hip]; have := HI.out; have := HM.out; have := HZI.out; unfold wrap64; omega)
        have HIP := Aside0.mk (And.intro hip hp)
        clear hip hp
        go_wp2
        obtain ⟨c2, hc2⟩ : ∃ z : CE, N1.getD I.toNat ceZ = z := ⟨_, rfl⟩
        have HC2 := Aside0.mk hc2
        clear hc2
        have hnv := bc BN 0
        have hk0 : w22.cell? ⟨gn, I.toNat * 5, none⟩ = some (.int .i64 c2.f0) := by have := ce_at HN.out I i0 i1 0; rw [HC2.out] at this; exact this _ rfl
        have hk1 : w22.cell? ⟨gn, I.toNat * 5 + 1, none⟩ = some (.int .i64 c2.f1) := by have := ce_at HN.out I i0 i1 1; rw [HC2.out] at this; exact this _ rfl
        refine start_ (n := 25) (S := fun w' => w'.cell? ⟨gN, 0, none⟩ = some (.slice (some ⟨gn, 0, none⟩) m cn) ∧ w'.cell? ⟨gn, I.toNat * 5 + 1, none⟩ = some (.int .i64 c2.f1)) (ds := [24]) #[false, false, false, false, false, false, false, false, false, false, false, false, false, false, false, false, false, false, false, false, false, false, false, false, false] (by kernel_rfl) rfl rfl ⟨hnv, hk1⟩ (fun hHeld => ?_); refine with_tabW ceM.tab8 ceM.bits8 (fun HT_ HW_ => ?_)
        have HK0 := Aside0.mk (show w22.drew.cell? ⟨gn, I.toNat * 5, none⟩ = some (.int .i64 c2.f0) from hk0)
        have n1_ := Aside0.mk (blk_drew BN.out)
        have n2_ := Aside0.mk (blk_drew BO.out)
        have n3_ := Aside0.mk (Kd.R_drew HN.out)
        have n4_ := Aside0.mk (Kd.S_drew HO.out)
        have n6_ := Aside0.mk (below_drew1 HB.out)
        clear BN BO HN HO HB hnv hk0 hk1
        generalize w22.drew = w23 at n1_ n2_ n3_ n4_ n6_ HK0 hHeld ⊢
        have BN := n1_
        have BO := n2_
        have HN := n3_
        have HO := n4_
        have HB := n6_
        clear n1_ n2_ n3_ n4_ n6_
        refine pu 1 30 HT_ ?_
        refine pu 3 32 HT_ ?_
        refine pu 5 34 HT_ ?_
        refine pu 11 40 HT_ ?_
        refine pu 15 44 HT_ ?_
        refine pu 16 45 HT_ ?_
        refine pu 17 46 HT_ ?_
        refine tk 0 29 HT_ HW_ hHeld ?_
        refine tk 2 31 HT_ HW_ hHeld ?_
        refine tk 4 33 HT_ HW_ hHeld ?_
        refine pu 6 35 HT_ ?_
        refine pu 7 36 HT_ ?_
        refine tk 10 39 HT_ HW_ hHeld ?_
        refine pu 12 41 HT_ ?_
        refine pu 13 42 HT_ ?_
        refine tk 14 43 HT_ HW_ hHeld ?_
        refine pu 18 47 HT_ ?_
        refine one_ (i := 8) (N := some 37) #[true, true, true, true, true, true, true, true, true, false, true, true, true, true, true, true, true, true, true, false, false, false, false, false, false] rfl rfl (one_of HT_.out (by kernel_rfl)) (by decide) (fun K hK => ?_)
        refine value_ (w1 := w23) (v := .int .i64 c2.f0) (by rfl) rfl ?_ ?_
        · have hk0 := HK0.out
          go_simp
        refine hK.out _ _ hHeld (fun hHeld => ?_)
        clear hK K HK0
        refine norm_ (a' := ?_) ?_ ?_
        rotate_left
        · show Act.put _ (some 37) _ = _
          simp only [Act.put, List.setIfInBounds_toArray, List.set_cons_zero, List.set_cons_succ, i64_w, i32_w]
          rfl
        refine pu 9 38 HT_ ?_
        refine pu 19 48 HT_ ?_
        refine pu 20 49 HT_ ?_
        refine one_ (i := 21) (N := none) #[true, true, true, true, true, true, true, true, true, true, true, true, true, true, true, true, true, true, true, true, true, true, false, false, false] rfl rfl (one_of HT_.out (by kernel_rfl)) (by decide) (fun K hK => ?_)
        refine ce_stD (seg := [.int .i64 (wrap64 (c2.f0 + 1))]) I 0 ⟨wrap64 (c2.f0 + 1), c2.f1, c2.f2, c2.f3, c2.f4⟩ (by rfl) rfl 3 (.tmp 49) (.tmp 38) rfl HN.out i0 i1 rfl rfl rfl rfl (by kernel_rfl) (by simp [Value.oneCell']) (Nat.le_of_ble_eq_true rfl) (by rw [HC2.out]; rfl) ?_
        intro w24 hn hg
        have NN := Aside0.mk hn
        clear HN hn hHeld
        have n1_ := Aside0.mk (blk_grown BN.out hg (fun h_ => NE.out.1 (Option.some.inj h_))); have n2_ := Aside0.mk (blk_grown BO.out hg (fun h_ => NE.out.2.1 (Option.some.inj h_))); have n4_ := Aside0.mk (Kd.S_grown HO.out hg (fun k hk h_ => NE.out.2.2.1 (hk.symm.trans (Option.some.inj h_)))); have n6_ := Aside0.mk (HB.out.grown hg HB.out.size (fun k hk => by have := NE.out.2.2.2; injection hk with hk; omega)); clear BN BO HO HB hg; have BN := n1_; have BO := n2_; have HO := n4_; have HB := n6_; clear n1_ n2_ n4_ n6_
        have hg2 : (N1.set I.toNat (⟨wrap64 (c2.f0 + 1), c2.f1, c2.f2, c2.f3, c2.f4⟩ : CE)).getD I.toNat ceZ = ⟨wrap64 (c2.f0 + 1), c2.f1, c2.f2, c2.f3, c2.f4⟩ := by
          have hl := (Kd.R_reads' NN.out).1
          rw [List.length_set] at hl
          rw [List.getD_eq_getElem?_getD, List.getElem?_set_self (by omega)]; rfl
        refine hK.out _ _ ⟨bc BN 0, by have := ce_at NN.out I i0 i1 1; rw [hg2] at this; exact this _ rfl⟩ (fun hHeld => ?_)
        clear hK K
        refine pu 22 50 HT_ ?_
        refine pu 23 51 HT_ ?_
        refine last_ (i := 24) (N := none) #[true, true, true, true, true, true, true, true, true, true, true, true, true, true, true, true, true, true, true, true, true, true, true, true, true] rfl rfl (one_of HT_.out (by kernel_rfl)) (by decide) (fun K hK => ?_)
        refine ce_stD (seg := [.int .i64 (Go.bits .or .i64 c2.f1 (ceBit ip))]) I 1 (ceAdd c2 ip) (by rfl) rfl 3 (.tmp 51) (.tmp 47) rfl NN.out i0 i1 rfl rfl rfl rfl (by kernel_rfl) (by simp [Value.oneCell']) (Nat.le_of_ble_eq_true rfl) (by rw [hg2]; rfl) ?_
        intro w25 hn hg
        clear NN hg2 hHeld
        have n1_ := Aside0.mk (blk_grown BN.out hg (fun h_ => NE.out.1 (Option.some.inj h_))); have n2_ := Aside0.mk (blk_grown BO.out hg (fun h_ => NE.out.2.1 (Option.some.inj h_))); have n4_ := Aside0.mk (Kd.S_grown HO.out hg (fun k hk h_ => NE.out.2.2.1 (hk.symm.trans (Option.some.inj h_)))); have n6_ := Aside0.mk (HB.out.grown hg HB.out.size (fun k hk => by have := NE.out.2.2.2; injection hk with hk; omega)); clear BN BO HO HB hg; have BN := n1_; have BO := n2_; have HO := n4_; have HB := n6_; clear n1_ n2_ n4_ n6_
        obtain ⟨N2, hNq⟩ : ∃ z : List CE, z = ceSetN N1 I (ceAdd · ip) := ⟨_, rfl⟩
        have HN := Aside0.mk (show Kd.R ceK 58 w25 w.heap.size (fun k => k = gn) (.slice (some ⟨gn, 0, none⟩) m cn) N2 by rw [hNq]; unfold ceSetN; rw [HC2.out]; rw [List.set_set] at hn; exact hn)
        have EN2 := Aside0.mk hNq
        clear hn hNq HC2
        refine hK.out _ _ ?_
        clear hK K
        refine done_ (done_of HT_.out (by kernel_rfl)) ?_
        clear HT_ HW_
        by_cases hq : I < a0
        case pos =>
          have hqd : decide (I < a0) = true := decide_eq_true hq
          have HQ := Aside0.mk hq
          clear hq
          go_wp2
          obtain ⟨c2, hc2⟩ : ∃ z : CE, N2.getD I.toNat ceZ = z := ⟨_, rfl⟩
          have HC2 := Aside0.mk hc2
          clear hc2
          have hnv := bc BN 0
          have hk0 : w25.cell? ⟨gn, I.toNat * 5, none⟩ = some (.int .i64 c2.f0) := by have := ce_at HN.out I i0 i1 0; rw [HC2.out] at this; exact this _ rfl
          have hk1 : w25.cell? ⟨gn, I.toNat * 5 + 1, none⟩ = some (.int .i64 c2.f1) := by have := ce_at HN.out I i0 i1 1; rw [HC2.out] at this; exact this _ rfl
          refine start_ (n := 24) (S := fun w' => w'.cell? ⟨gN, 0, none⟩ = some (.slice (some ⟨gn, 0, none⟩) m cn) ∧ w'.cell? ⟨gn, I.toNat * 5 + 1, none⟩ = some (.int .i64 c2.f1)) (ds := [23]) #[false, false, false, false, false, false, false, false, false, false, false, false, false, false, false, false, false, false, false, false, false, false, false, false] (by kernel_rfl) rfl rfl ⟨hnv, hk1⟩ (fun hHeld => ?_); refine with_tabW ceM.tab10 ceM.bits10 (fun HT_ HW_ => ?_)
          have HK0 := Aside0.mk (show w25.drew.cell? ⟨gn, I.toNat * 5, none⟩ = some (.int .i64 c2.f0) from hk0)
          have n1_ := Aside0.mk (blk_drew BN.out)
          have n2_ := Aside0.mk (blk_drew BO.out)
          have n3_ := Aside0.mk (Kd.R_drew HN.out)
          have n4_ := Aside0.mk (Kd.S_drew HO.out)
          have n6_ := Aside0.mk (below_drew1 HB.out)
          clear BN BO HN HO HB hnv hk0 hk1
          generalize w25.drew = w26 at n1_ n2_ n3_ n4_ n6_ HK0 hHeld ⊢
          have BN := n1_
          have BO := n2_
          have HN := n3_
          have HO := n4_
          have HB := n6_
          clear n1_ n2_ n3_ n4_ n6_
          refine pu 1 56 HT_ ?_
          refine pu 3 58 HT_ ?_
          refine pu 5 60 HT_ ?_
          refine pu 11 66 HT_ ?_
          refine pu 15 70 HT_ ?_
          refine pu 16 71 HT_ ?_
          refine tk 0 55 HT_ HW_ hHeld ?_
          refine tk 2 57 HT_ HW_ hHeld ?_
          refine tk 4 59 HT_ HW_ hHeld ?_
          refine pu 6 61 HT_ ?_
          refine pu 7 62 HT_ ?_
          refine tk 10 65 HT_ HW_ hHeld ?_
          refine pu 12 67 HT_ ?_
          refine pu 13 68 HT_ ?_
          refine tk 14 69 HT_ HW_ hHeld ?_
          refine pu 17 72 HT_ ?_
          refine one_ (i := 8) (N := some 63) #[true, true, true, true, true, true, true, true, true, false, true, true, true, true, true, true, true, true, false, false, false, false, false, false] rfl rfl (one_of HT_.out (by kernel_rfl)) (by decide) (fun K hK => ?_)
          refine value_ (w1 := w26) (v := .int .i64 c2.f0) (by rfl) rfl ?_ ?_
          · have hk0 := HK0.out
            go_simp
          refine hK.out _ _ hHeld (fun hHeld => ?_)
          clear hK K HK0
          refine norm_ (a' := ?_) ?_ ?_
          rotate_left
          · show Act.put _ (some 63) _ = _
            simp only [Act.put, List.setIfInBounds_toArray, List.set_cons_zero, List.set_cons_succ, i64_w, i32_w]
            rfl
          refine pu 9 64 HT_ ?_
          refine pu 18 73 HT_ ?_
          refine pu 19 74 HT_ ?_
          refine one_ (i := 20) (N := none) #[true, true, true, true, true, true, true, true, true, true, true, true, true, true, true, true, true, true, true, true, true, false, false, false] rfl rfl (one_of HT_.out (by kernel_rfl)) (by decide) (fun K hK => ?_)
          refine ce_stD (seg := [.int .i64 (wrap64 (c2.f0 + 1))]) I 0 ⟨wrap64 (c2.f0 + 1), c2.f1, c2.f2, c2.f3, c2.f4⟩ (by rfl) rfl 3 (.tmp 74) (.tmp 64) rfl HN.out i0 i1 rfl rfl rfl rfl (by kernel_rfl) (by simp [Value.oneCell']) (Nat.le_of_ble_eq_true rfl) (by rw [HC2.out]; rfl) ?_
          intro w27 hn hg
          have NN := Aside0.mk hn
          clear HN hn hHeld
          have n1_ := Aside0.mk (blk_grown BN.out hg (fun h_ => NE.out.1 (Option.some.inj h_))); have n2_ := Aside0.mk (blk_grown BO.out hg (fun h_ => NE.out.2.1 (Option.some.inj h_))); have n4_ := Aside0.mk (Kd.S_grown HO.out hg (fun k hk h_ => NE.out.2.2.1 (hk.symm.trans (Option.some.inj h_)))); have n6_ := Aside0.mk (HB.out.grown hg HB.out.size (fun k hk => by have := NE.out.2.2.2; injection hk with hk; omega)); clear BN BO HO HB hg; have BN := n1_; have BO := n2_; have HO := n4_; have HB := n6_; clear n1_ n2_ n4_ n6_
          have hg2 : (N2.set I.toNat (⟨wrap64 (c2.f0 + 1), c2.f1, c2.f2, c2.f3, c2.f4⟩ : CE)).getD I.toNat ceZ = ⟨wrap64 (c2.f0 + 1), c2.f1, c2.f2, c2.f3, c2.f4⟩ := by
            have hl := (Kd.R_reads' NN.out).1
            rw [List.length_set] at hl
            rw [List.getD_eq_getElem?_getD, List.getElem?_set_self (by omega)]; rfl
          refine hK.out _ _ ⟨bc BN 0, by have := ce_at NN.out I i0 i1 1; rw [hg2] at this; exact this _ rfl⟩ (fun hHeld => ?_)
          clear hK K
          refine pu 21 75 HT_ ?_
          refine pu 22 76 HT_ ?_
          refine last_ (i := 23) (N := none) #[true, true, true, true, true, true, true, true, true, true, true, true, true, true, true, true, true, true, true, true, true, true, true, true] rfl rfl (one_of HT_.out (by kernel_rfl)) (by decide) (fun K hK => ?_)
          refine ce_stD (seg := [.int .i64 (Go.bits .or .i64 c2.f1 (ceBit I))]) I 1 (ceAdd c2 I) (by rfl) rfl 3 (.tmp 76) (.tmp 72) rfl NN.out i0 i1 rfl rfl rfl rfl (by kernel_rfl) (by simp [Value.oneCell']) (Nat.le_of_ble_eq_true rfl) (by rw [hg2]; rfl) ?_
          intro w28 hn hg
          clear NN hg2 hHeld
          have n1_ := Aside0.mk (blk_grown BN.out hg (fun h_ => NE.out.1 (Option.some.inj h_))); have n2_ := Aside0.mk (blk_grown BO.out hg (fun h_ => NE.out.2.1 (Option.some.inj h_))); have n4_ := Aside0.mk (Kd.S_grown HO.out hg (fun k hk h_ => NE.out.2.2.1 (hk.symm.trans (Option.some.inj h_)))); have n6_ := Aside0.mk (HB.out.grown hg HB.out.size (fun k hk => by have := NE.out.2.2.2; injection hk with hk; omega)); clear BN BO HO HB hg; have BN := n1_; have BO := n2_; have HO := n4_; have HB := n6_; clear n1_ n2_ n4_ n6_
          obtain ⟨N3, hNq⟩ : ∃ z : List CE, z = ceSetN N2 I (ceAdd · I) := ⟨_, rfl⟩
          have HN := Aside0.mk (show Kd.R ceK 58 w28 w.heap.size (fun k => k = gn) (.slice (some ⟨gn, 0, none⟩) m cn) N3 by rw [hNq]; unfold ceSetN; rw [HC2.out]; rw [List.set_set] at hn; exact hn)
          have EN3 := Aside0.mk hNq
          clear hn hNq HC2
          refine hK.out _ _ ?_
          clear hK K
          refine done_ (done_of HT_.out (by kernel_rfl)) ?_
          clear HT_ HW_
          go_wp2
          go_roundg (m - (i + 1))
          case measure => have := HI.out; omega
          case rel =>
            have hw : wrap64 (I + 1) = ((i + 1 : Nat) : Int) := by have := HI.out; have := HM.out; have := HZI.out; unfold wrap64; omega
            have hlt : I.toNat < (ceN0 a0 m i).length := by rw [ceN0_length]; have := HI.out; have := HZI.out; omega
            have hNn : N3 = ceN0 a0 m (i + 1) := by
              rw [EN3.out, EN2.out, EN1.out, ceSetN_set _ _ _ _ hlt, ceSetN_set _ _ _ _ hlt]
              rw [← ceN0_step a0 m i HI.out.1, HZI.out, show i = I.toNat by have := HZI.out; omega]
              congr 1
              unfold ceI2 ceI1; rw [if_pos HQ.out, if_pos HIP.out.2, HIP.out.1]
            exact ⟨i + 1, by first | rfl | (rw [hw]; done) | exact congrArg (Value.int .i64) hw, HI.out.1, Nat.le_refl _, BN, BO, ⟨by rw [← hNn]; exact HN.out⟩, HO, HB⟩
        case neg =>
          have hqd : decide (I < a0) = false := decide_eq_false hq
          have HQ := Aside0.mk hq
          clear hq
          go_wp2
          go_roundg (m - (i + 1))
          case measure => have := HI.out; omega
          case rel =>
            have hw : wrap64 (I + 1) = ((i + 1 : Nat) : Int) := by have := HI.out; have := HM.out; have := HZI.out; unfold wrap64; omega
            have hlt : I.toNat < (ceN0 a0 m i).length := by rw [ceN0_length]; have := HI.out; have := HZI.out; omega
            have hNn : N2 = ceN0 a0 m (i + 1) := by
              rw [EN2.out, EN1.out, ceSetN_set _ _ _ _ hlt]
              rw [← ceN0_step a0 m i HI.out.1, HZI.out, show i = I.toNat by have := HZI.out; omega]
              congr 1
              unfold ceI2 ceI1; rw [if_neg (Int.not_lt.mpr HQ.out), if_pos HIP.out.2, HIP.out.1]
            exact ⟨i + 1, by first | rfl | (rw [hw]; done) | exact congrArg (Value.int .i64) hw, HI.out.1, Nat.le_refl _, BN, BO, ⟨by rw [← hNn]; exact HN.out⟩, HO, HB⟩
      case neg =>
        have hpd : decide (0 < I) = false := decide_eq_false hp
        have hq : I < a0 := by have := HM.out; omega
        have hqd : decide (I < a0) = true := decide_eq_true hq
        have HQ := Aside0.mk (And.intro hp hq)
        clear hp hq
        go_wp2
        obtain ⟨c2, hc2⟩ : ∃ z : CE, N1.getD I.toNat ceZ = z := ⟨_, rfl⟩
        have HC2 := Aside0.mk hc2
        clear hc2
        have hnv := bc BN 0
        have hk0 : w22.cell? ⟨gn, I.toNat * 5, none⟩ = some (.int .i64 c2.f0) := by have := ce_at HN.out I i0 i1 0; rw [HC2.out] at this; exact this _ rfl
        have hk1 : w22.cell? ⟨gn, I.toNat * 5 + 1, none⟩ = some (.int .i64 c2.f1) := by have := ce_at HN.out I i0 i1 1; rw [HC2.out] at this; exact this _ rfl
        refine start_ (n := 24) (S := fun w' => w'.cell? ⟨gN, 0, none⟩ = some (.slice (some ⟨gn, 0, none⟩) m cn) ∧ w'.cell? ⟨gn, I.toNat * 5 + 1, none⟩ = some (.int .i64 c2.f1)) (ds := [23]) #[false, false, false, false, false, false, false, false, false, false, false, false, false, false, false, false, false, false, false, false, false, false, false, false] (by kernel_rfl) rfl rfl ⟨hnv, hk1⟩ (fun hHeld => ?_); refine with_tabW ceM.tab10 ceM.bits10 (fun HT_ HW_ => ?_)
        have HK0 := Aside0.mk (show w22.drew.cell? ⟨gn, I.toNat * 5, none⟩ = some (.int .i64 c2.f0) from hk0)
        have n1_ := Aside0.mk (blk_drew BN.out)
        have n2_ := Aside0.mk (blk_drew BO.out)
        have n3_ := Aside0.mk (Kd.R_drew HN.out)
        have n4_ := Aside0.mk (Kd.S_drew HO.out)
        have n6_ := Aside0.mk (below_drew1 HB.out)
        clear BN BO HN HO HB hnv hk0 hk1
        generalize w22.drew = w26 at n1_ n2_ n3_ n4_ n6_ HK0 hHeld ⊢
        have BN := n1_
        have BO := n2_
        have HN := n3_
        have HO := n4_
        have HB := n6_
        clear n1_ n2_ n3_ n4_ n6_
        refine pu 1 56 HT_ ?_
        refine pu 3 58 HT_ ?_
        refine pu 5 60 HT_ ?_
        refine pu 11 66 HT_ ?_
        refine pu 15 70 HT_ ?_
        refine pu 16 71 HT_ ?_
        refine tk 0 55 HT_ HW_ hHeld ?_
        refine tk 2 57 HT_ HW_ hHeld ?_
        refine tk 4 59 HT_ HW_ hHeld ?_
        refine pu 6 61 HT_ ?_
        refine pu 7 62 HT_ ?_
        refine tk 10 65 HT_ HW_ hHeld ?_
        refine pu 12 67 HT_ ?_
        refine pu 13 68 HT_ ?_
        refine tk 14 69 HT_ HW_ hHeld ?_
        refine pu 17 72 HT_ ?_
        refine one_ (i := 8) (N := some 63) #[true, true, true, true, true, true, true, true, true, false, true, true, true, true, true, true, true, true, false, false, false, false, false, false] rfl rfl (one_of HT_.out (by kernel_rfl)) (by decide) (fun K hK => ?_)
        refine value_ (w1 := w26) (v := .int .i64 c2.f0) (by rfl) rfl ?_ ?_
        · have hk0 := HK0.out
          go_simp
        refine hK.out _ _ hHeld (fun hHeld => ?_)
        clear hK K HK0
        refine norm_ (a' := ?_) ?_ ?_
        rotate_left
        · show Act.put _ (some 63) _ = _
          simp only [Act.put, List.setIfInBounds_toArray, List.set_cons_zero, List.set_cons_succ, i64_w, i32_w]
          rfl
        refine pu 9 64 HT_ ?_
        refine pu 18 73 HT_ ?_
        refine pu 19 74 HT_ ?_
        refine one_ (i := 20) (N := none) #[true, true, true, true, true, true, true, true, true, true, true, true, true, true, true, true, true, true, true, true, true, false, false, false] rfl rfl (one_of HT_.out (by kernel_rfl)) (by decide) (fun K hK => ?_)
        refine ce_stD (seg := [.int .i64 (wrap64 (c2.f0 + 1))]) I 0 ⟨wrap64 (c2.f0 + 1), c2.f1, c2.f2, c2.f3, c2.f4⟩ (by rfl) rfl 3 (.tmp 74) (.tmp 64) rfl HN.out i0 i1 rfl rfl rfl rfl (by kernel_rfl) (by simp [Value.oneCell']) (Nat.le_of_ble_eq_true rfl) (by rw [HC2.out]; rfl) ?_
        intro w27 hn hg
        have NN := Aside0.mk hn
        clear HN hn hHeld
        have n1_ := Aside0.mk (blk_grown BN.out hg (fun h_ => NE.out.1 (Option.some.inj h_))); have n2_ := Aside0.mk (blk_grown BO.out hg (fun h_ => NE.out.2.1 (Option.some.inj h_))); have n4_ := Aside0.mk (Kd.S_grown HO.out hg (fun k hk h_ => NE.out.2.2.1 (hk.symm.trans (Option.some.inj h_)))); have n6_ := Aside0.mk (HB.out.grown hg HB.out.size (fun k hk => by have := NE.out.2.2.2; injection hk with hk; omega)); clear BN BO HO HB hg; have BN := n1_; have BO := n2_; have HO := n4_; have HB := n6_; clear n1_ n2_ n4_ n6_
        have hg2 : (N1.set I.toNat (⟨wrap64 (c2.f0 + 1), c2.f1, c2.f2, c2.f3, c2.f4⟩ : CE)).getD I.toNat ceZ = ⟨wrap64 (c2.f0 + 1), c2.f1, c2.f2, c2.f3, c2.f4⟩ := by
          have hl := (Kd.R_reads' NN.out).1
          rw [List.length_set] at hl
          rw [List.getD_eq_getElem?_getD, List.getElem?_set_self (by omega)]; rfl
        refine hK.out _ _ ⟨bc BN 0, by have := ce_at NN.out I i0 i1 1; rw [hg2] at this; exact this _ rfl⟩ (fun hHeld => ?_)
        clear hK K
        refine pu 21 75 HT_ ?_
        refine pu 22 76 HT_ ?_
        refine last_ (i := 23) (N := none) #[true, true, true, true, true, true, true, true, true, true, true, true, true, true, true, true, true, true, true, true, true, true, true, true] rfl rfl (one_of HT_.out (by kernel_rfl)) (by decide) (fun K hK => ?_)
        refine ce_stD (seg := [.int .i64 (Go.bits .or .i64 c2.f1 (ceBit I))]) I 1 (ceAdd c2 I) (by rfl) rfl 3 (.tmp 76) (.tmp 72) rfl NN.out i0 i1 rfl rfl rfl rfl (by kernel_rfl) (by simp [Value.oneCell']) (Nat.le_of_ble_eq_true rfl) (by rw [hg2]; rfl) ?_
        intro w28 hn hg
        clear NN hg2 hHeld
        have n1_ := Aside0.mk (blk_grown BN.out hg (fun h_ => NE.out.1 (Option.some.inj h_))); have n2_ := Aside0.mk (blk_grown BO.out hg (fun h_ => NE.out.2.1 (Option.some.inj h_))); have n4_ := Aside0.mk (Kd.S_grown HO.out hg (fun k hk h_ => NE.out.2.2.1 (hk.symm.trans (Option.some.inj h_)))); have n6_ := Aside0.mk (HB.out.grown hg HB.out.size (fun k hk => by have := NE.out.2.2.2; injection hk with hk; omega)); clear BN BO HO HB hg; have BN := n1_; have BO := n2_; have HO := n4_; have HB := n6_; clear n1_ n2_ n4_ n6_
        obtain ⟨N3, hNq⟩ : ∃ z : List CE, z = ceSetN N1 I (ceAdd · I) := ⟨_, rfl⟩
        have HN := Aside0.mk (show Kd.R ceK 58 w28 w.heap.size (fun k => k = gn) (.slice (some ⟨gn, 0, none⟩) m cn) N3 by rw [hNq]; unfold ceSetN; rw [HC2.out]; rw [List.set_set] at hn; exact hn)
        have EN3 := Aside0.mk hNq
        clear hn hNq HC2
        refine hK.out _ _ ?_
        clear hK K
        refine done_ (done_of HT_.out (by kernel_rfl)) ?_
        clear HT_ HW_
        go_wp2
        go_roundg (m - (i + 1))
        case measure => have := HI.out; omega
        case rel =>
          have hw : wrap64 (I + 1) = ((i + 1 : Nat) : Int) := by have := HI.out; have := HM.out; have := HZI.out; unfold wrap64; omega
          have hlt : I.toNat < (ceN0 a0 m i).length := by rw [ceN0_length]; have := HI.out; have := HZI.out; omega
          have hNn : N3 = ceN0 a0 m (i + 1) := by
            rw [EN3.out, EN1.out, ceSetN_set _ _ _ _ hlt]
            rw [← ceN0_step a0 m i HI.out.1, HZI.out, show i = I.toNat by have := HZI.out; omega]
            congr 1
            unfold ceI2 ceI1; rw [if_pos HQ.out.2, if_neg (Int.not_lt.mpr HQ.out.1)]
          exact ⟨i + 1, by first | rfl | (rw [hw]; done) | exact congrArg (Value.int .i64) hw, HI.out.1, Nat.le_refl _, BN, BO, ⟨by rw [← hNn]; exact HN.out⟩, HO, HB⟩

end Go.Proofs.Ythibphndihjcaaa.P
