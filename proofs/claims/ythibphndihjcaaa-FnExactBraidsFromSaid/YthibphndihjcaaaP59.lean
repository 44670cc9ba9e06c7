-- Printed by a program of this session (wip/tools/myprint.py, over the kit's print.py); not trusted: Lean checks it.
import Derived.Test.YthibphndihjcaaaP0
namespace Go.Proofs.Ythibphndihjcaaa.P
open Go.RowKit Go.Proofs.YthibphndihjcaaaW.PrintWords Go.Proofs.YthibphndihjcaaaW.PrintLast Go.Proofs.YthibphndihjcaaaW.PrintMore
attribute [local go_sem] max2_int min2_int max_two min_two max_three min_three max_four min_four   -- for this text's walks alone
set_option linter.unusedVariables false
set_option linter.unusedSimpArgs false

attribute [local go_sem] Go.Proofs.Try.underlying65 Go.Proofs.Try.underlying66 Go.Proofs.Try.underlying67 Go.Proofs.Try.underlying69
/-! ### impl_triplesOf: function 59 -/
mutual
def impl_triplesOf.l0 : Nat → Int → List (S72) → Int → Option ((List (S72)))
 | 0, _, _, _ => none
 | k + 1, x0, x3, x4 => if x4 < x0 then (impl_triplesOf.l1 k x0 x3 x4 (wrap64 (x4 + 1))) else (some x3)
def impl_triplesOf.l1 : Nat → Int → List (S72) → Int → Int → Option ((List (S72)))
 | 0, _, _, _, _ => none
 | k + 1, x0, x3, x4, x5 => if x5 < x0 then (impl_triplesOf.l2 k x0 x3 x4 x5 (wrap64 (x5 + 1))) else (impl_triplesOf.l0 k x0 x3 (wrap64 (x4 + 1)))
def impl_triplesOf.l2 : Nat → Int → List (S72) → Int → Int → Int → Option ((List (S72)))
 | 0, _, _, _, _, _ => none
 | k + 1, x0, x3, x4, x5, x6 => if x6 < x0 then (if x3.length < 5864062014805 then (impl_triplesOf.l2 k x0 (x3 ++ [(⟨x4, x5, x6⟩ : S72)]) x4 x5 (wrap64 (x6 + 1))) else (none)) else (impl_triplesOf.l1 k x0 x3 x4 (wrap64 (x5 + 1)))
end
def impl_triplesOf.f (k : Nat) (a0 : Int) : Option ((List (S72))) := impl_triplesOf.l0 k a0 ([] : List (S72)) 0
theorem impl_triplesOf.mono_l : ∀ k, (∀ y0 y1 y2, LeO (impl_triplesOf.l0 k y0 y1 y2) (impl_triplesOf.l0 (k + 1) y0 y1 y2)) ∧ (∀ y0 y1 y2 y3, LeO (impl_triplesOf.l1 k y0 y1 y2 y3) (impl_triplesOf.l1 (k + 1) y0 y1 y2 y3)) ∧ (∀ y0 y1 y2 y3 y4, LeO (impl_triplesOf.l2 k y0 y1 y2 y3 y4) (impl_triplesOf.l2 (k + 1) y0 y1 y2 y3 y4))
 | 0 => ⟨fun _ _ _ r h => by simp [impl_triplesOf.l0] at h, fun _ _ _ _ r h => by simp [impl_triplesOf.l1] at h, fun _ _ _ _ _ r h => by simp [impl_triplesOf.l2] at h⟩
 | k + 1 => by
  obtain ⟨ih0, ih1, ih2⟩ := impl_triplesOf.mono_l k
  refine ⟨?_, ?_, ?_⟩
  ·intro y0 y1 y2
   unfold impl_triplesOf.l0
   repeat' first
   | (with_reducible exact ih0 _ _ _)
   | (with_reducible exact ih1 _ _ _ _)
   | (with_reducible exact ih2 _ _ _ _ _)
   | (with_reducible exact LeO.refl _)
   | (with_reducible exact LeO.none _)
   | (with_reducible refine LeO.ite ?_ ?_)
   | (with_reducible refine LeO.bind ?_ (fun _ => ?_))
   | exact ih0 _ _ _
   | exact ih1 _ _ _ _
   | exact ih2 _ _ _ _ _
   | exact LeO.none _
   | refine LeO.ite ?_ ?_
   | refine LeO.bind ?_ (fun _ => ?_)
  ·intro y0 y1 y2 y3
   unfold impl_triplesOf.l1
   repeat' first
   | (with_reducible exact ih0 _ _ _)
   | (with_reducible exact ih1 _ _ _ _)
   | (with_reducible exact ih2 _ _ _ _ _)
   | (with_reducible exact LeO.refl _)
   | (with_reducible exact LeO.none _)
   | (with_reducible refine LeO.ite ?_ ?_)
   | (with_reducible refine LeO.bind ?_ (fun _ => ?_))
   | exact ih0 _ _ _
   | exact ih1 _ _ _ _
   | exact ih2 _ _ _ _ _
   | exact LeO.none _
   | refine LeO.ite ?_ ?_
   | refine LeO.bind ?_ (fun _ => ?_)
  ·intro y0 y1 y2 y3 y4
   unfold impl_triplesOf.l2
   repeat' first
   | (with_reducible exact ih0 _ _ _)
   | (with_reducible exact ih1 _ _ _ _)
   | (with_reducible exact ih2 _ _ _ _ _)
   | (with_reducible exact LeO.refl _)
   | (with_reducible exact LeO.none _)
   | (with_reducible refine LeO.ite ?_ ?_)
   | (with_reducible refine LeO.bind ?_ (fun _ => ?_))
   | exact ih0 _ _ _
   | exact ih1 _ _ _ _
   | exact ih2 _ _ _ _ _
   | exact LeO.none _
   | refine LeO.ite ?_ ?_
   | refine LeO.bind ?_ (fun _ => ?_)
theorem impl_triplesOf.mono : ∀ a0 k, LeO (impl_triplesOf.f k a0) (impl_triplesOf.f (k + 1) a0) := by
 intro a0 k
 obtain ⟨ih0, ih1, ih2⟩ := impl_triplesOf.mono_l k
 unfold impl_triplesOf.f
 repeat' first
   | (with_reducible exact ih0 _ _ _)
   | (with_reducible exact ih1 _ _ _ _)
   | (with_reducible exact ih2 _ _ _ _ _)
   | (with_reducible exact LeO.refl _)
   | (with_reducible exact LeO.none _)
   | (with_reducible refine LeO.ite ?_ ?_)
   | (with_reducible refine LeO.bind ?_ (fun _ => ?_))
   | exact ih0 _ _ _
   | exact ih1 _ _ _ _
   | exact ih2 _ _ _ _ _
   | exact LeO.none _
   | refine LeO.ite ?_ ?_
   | refine LeO.bind ?_ (fun _ => ?_)
set_option maxHeartbeats 8000000 in
set_option maxRecDepth 100000 in
theorem impl_triplesOf.calls (k : Nat) (a0 : Int) (r : List (S72)) (w : World) (h : impl_triplesOf.f k a0 = some r) :
  Calls Try.prog 59 #[.int .i64 a0] w fun e w' => ∃ v0_ : Value, e = .returned (v0_) ∧ Kd.R k72 72 w' w.heap.size (fun _ => True) v0_ r ∧ Below w.heap.size w w' := by
 have hu72 := Try.underlying72
 have HB := Aside0.mk (Below.refl w.heap.size w)
 have H : (impl_triplesOf.l0 k a0 ([] : List (S72)) 0) = some r := h
 clear h
 have H' := Aside0.mk H
 clear H
 go_enter Try.func59, Try.ntmps59
 go_wp2
 go_loopg [3, 4] k (fun kq v3 v4 w' => ∃ (x3_1 : List (S72)) (x4_1 : Int), v4 = .int .i64 x4_1 ∧ Aside0 (impl_triplesOf.l0 kq a0 x3_1 x4_1 = some r) ∧ Aside0 (kq ≤ k) ∧ Aside0 (Kd.R k72 72 w' w.heap.size (fun _ => True) v3 x3_1) ∧ Aside0 (Below w.heap.size w w'))
 case atStart => exact ⟨(([] : List (S72))), (0), (by first | rfl | (simp; done) | (simp [*]; done)), H', ⟨Nat.le_refl _⟩, ⟨by first | exact Kd.R_nil _ _ _ _ _ | exact Kd.N_nil _ _ _ _ _ | exact Kd.V_nil _ _ _ _ _ | exact Kd.Q_nil _ _ _ _ _ | exact Kd.S_nil _ _ _ _ _⟩, ⟨(bl HB)⟩⟩
 case round =>
  clear H'
  obtain ⟨x3_1, x4_1, rfl, HA, HK1, HO_3, HB⟩ := hrel
  cases gk with
  | zero => exact absurd HA.out (by simp [impl_triplesOf.l0])
  | succ k1 =>
   have H := HA.out
   clear HA
   simp only [impl_triplesOf.l0] at H
   by_cases c2 : x4_1 < a0
   ·rw [if_pos c2] at H
    have c2b0 : decide (x4_1 < a0) = true := decide_eq_true c2
    clear c2
    have H' := Aside0.mk H
    clear H
    go_wp2
    go_loopg [3, 5] k1 (fun kq v3 v5 w' => ∃ (x3_2 : List (S72)) (x5_2 : Int), v5 = .int .i64 x5_2 ∧ Aside0 (impl_triplesOf.l1 kq a0 x3_2 x4_1 x5_2 = some r) ∧ Aside0 (kq ≤ k1) ∧ Aside0 (Kd.R k72 72 w' w.heap.size (fun _ => True) v3 x3_2) ∧ Aside0 (Below w.heap.size w w'))
    case atStart => exact ⟨(x3_1), (wrap64 (x4_1 + 1)), (by first | rfl | (simp; done) | (simp [*]; done)), H', ⟨Nat.le_refl _⟩, ⟨by (with_reducible repeat (first | apply Kd.R_alloc | apply Kd.R_drewN | apply Kd.R_drew)); exact HO_3.out⟩, ⟨(bl HB)⟩⟩
    case round =>
     clear H'
     try clear c2
     try clear c2b0
     try clear p2
     obtain ⟨x3_2, x5_2, rfl, HA, HK2, HO_3, HB⟩ := hrel
     cases gk with
     | zero => exact absurd HA.out (by simp [impl_triplesOf.l1])
     | succ k2 =>
      have H := HA.out
      clear HA
      simp only [impl_triplesOf.l1] at H
      by_cases c3 : x5_2 < a0
      ·rw [if_pos c3] at H
       have c3b0 : decide (x5_2 < a0) = true := decide_eq_true c3
       clear c3
       have H' := Aside0.mk H
       clear H
       go_wp2
       go_loopg [3, 6] k2 (fun kq v3 v6 w' => ∃ (x3_3 : List (S72)) (x6_3 : Int), v6 = .int .i64 x6_3 ∧ Aside0 (impl_triplesOf.l2 kq a0 x3_3 x4_1 x5_2 x6_3 = some r) ∧ Aside0 (kq ≤ k2) ∧ Aside0 (Kd.R k72 72 w' w.heap.size (fun _ => True) v3 x3_3) ∧ Aside0 (Below w.heap.size w w'))
       case atStart => exact ⟨(x3_2), (wrap64 (x5_2 + 1)), (by first | rfl | (simp; done) | (simp [*]; done)), H', ⟨Nat.le_refl _⟩, ⟨by (with_reducible repeat (first | apply Kd.R_alloc | apply Kd.R_drewN | apply Kd.R_drew)); exact HO_3.out⟩, ⟨(bl HB)⟩⟩
       case round =>
        clear H'
        try clear c2
        try clear c2b0
        try clear p2
        try clear c3
        try clear c3b0
        try clear p2
        obtain ⟨x3_3, x6_3, rfl, HA, HK3, HO_3, HB⟩ := hrel
        cases gk with
        | zero => exact absurd HA.out (by simp [impl_triplesOf.l2])
        | succ k3 =>
         have H := HA.out
         clear HA
         simp only [impl_triplesOf.l2] at H
         by_cases c4 : x6_3 < a0
         ·rw [if_pos c4] at H
          have c4b0 : decide (x6_3 < a0) = true := decide_eq_true c4
          clear c4
          by_cases c5 : x3_3.length < 5864062014805
          ·rw [if_pos c5] at H
           have LMc5 := Aside0.mk c5
           clear c5
           obtain ⟨y229, hy229⟩ : ∃ y_ : List (S72), y_ = (x3_3 ++ [(⟨x4_1, x5_2, x6_3⟩ : S72)]) := ⟨_, rfl⟩
           replace H : (impl_triplesOf.l2 k3 a0 y229 x4_1 x5_2 (wrap64 (x6_3 + 1))) = some r := by first | (rw [hy229]; with_reducible exact H) | (have H2_ := (Option.bind_some _ _).symm.trans H; rw [hy229]; with_reducible exact H2_) | (have H2_ := (Option.bind_some _ _).symm.trans H; with_reducible exact H2_) | with_reducible exact H | (rw [hy229]; exact H) | exact H
           have Ny229 := Aside0.mk hy229
           clear hy229
           have H' := Aside0.mk H
           clear H
           go_wp2_with (first | ((with_reducible refine gate_builtin (b := .append) (xs := #[.tmp 26, .tmp 31]) rfl ?_); at_builtin; refine Kd.R_append k72 (w0 := w) w.heap.size rfl (.tmp 26) (.tmp 31) 70 72 (.agg #[(.int .i64 0), (.int .i64 0), (.int .i64 0)]) 24 rfl Try.underlying70 info72 rfl (by decide) (by omega) u3 x3_3 (⟨x4_1, x5_2, x6_3⟩ : S72) [.int .i64 x4_1, .int .i64 x5_2, .int .i64 x6_3] (fun _ => True) (fun _ => False) rfl rfl ?aP (fun _ hk => hk.elim) ?aF ?aO ?aB ?aS ?aL ?_; (case aP => exact k72_mkM _ _ _ (⟨x4_1, x5_2, x6_3⟩ : S72)); (case aB => exact (bl HB)); (case aF => exact (fun _ _ => trivial)); (case aO => exact (rr HO_3)); (case aS => exact (below_size (bl HB))); (case aL => have := LMc5.out; omega); intro v230 w6 ho hb hg hat; rw [← Ny229.out] at ho; have n0_ := Aside0.mk (hb); have n1_ := Aside0.mk (ho); clear HB; clear HO_3; have HB := n0_; have HO231 := n1_; clear n0_ n1_; clear ho hb hg hat))
           go_roundg k3
           case measure => have := HK1.out; have := HK2.out; have := HK3.out; omega
           case rel => exact ⟨(y229), (wrap64 (x6_3 + 1)), (by first | rfl | (simp; done) | (simp [*]; done)), H', ⟨by have := HK1.out; have := HK2.out; have := HK3.out; omega⟩, ⟨by (with_reducible repeat (first | apply Kd.R_alloc | apply Kd.R_drewN | apply Kd.R_drew)); exact HO231.out⟩, ⟨(bl HB)⟩⟩
          ·rw [if_neg c5] at H
           exact absurd H (by simp)
         ·rw [if_neg c4] at H
          have c4b0 : decide (x6_3 < a0) = false := decide_eq_false c4
          clear c4
          have H' := Aside0.mk H
          clear H
          go_wp2
          go_roundg k3
          case measure => have := HK1.out; have := HK2.out; have := HK3.out; omega
          case rel => exact ⟨(x3_3), (wrap64 (x5_2 + 1)), (by first | rfl | (simp; done) | (simp [*]; done)), H', ⟨by have := HK1.out; have := HK2.out; have := HK3.out; omega⟩, ⟨by (with_reducible repeat (first | apply Kd.R_alloc | apply Kd.R_drewN | apply Kd.R_drew)); exact HO_3.out⟩, ⟨(bl HB)⟩⟩
      ·rw [if_neg c3] at H
       have c3b0 : decide (x5_2 < a0) = false := decide_eq_false c3
       clear c3
       have H' := Aside0.mk H
       clear H
       go_wp2
       go_roundg k2
       case measure => have := HK1.out; have := HK2.out; omega
       case rel => exact ⟨(x3_2), (wrap64 (x4_1 + 1)), (by first | rfl | (simp; done) | (simp [*]; done)), H', ⟨by have := HK1.out; have := HK2.out; omega⟩, ⟨by (with_reducible repeat (first | apply Kd.R_alloc | apply Kd.R_drewN | apply Kd.R_drew)); exact HO_3.out⟩, ⟨(bl HB)⟩⟩
   ·rw [if_neg c2] at H
    have c2b0 : decide (x4_1 < a0) = false := decide_eq_false c2
    clear c2
    obtain rfl := Option.some.inj H
    go_wp2
    go_ret
    exact ⟨_, by first | rfl | (simp [errW_none, errW_some] <;> rfl) | (simp [*, errW_none, errW_some] <;> rfl), by (with_reducible repeat (first | apply Kd.R_alloc | apply Kd.R_drewN | apply Kd.R_drew)); exact HO_3.out, (bl HB)⟩

/-! ### impl_chi_set: function 60 -/
def impl_chi_set.f (l0 : List Int) (a1 : Int) (a2 : Int) (a3 : Int) (a4 : Int) : Option (List Int) := if 0 ≤ a1 then (if a1 < 7 then (if 0 ≤ a2 then (if a2 < 7 then (if 0 ≤ a3 then (if a3 < 7 then (if 344 ≤ (l0.length : Int) then (some ((((((l0.set ((cidx a1 a2 a3) : Int).toNat a4).set ((cidx a2 a3 a1) : Int).toNat a4).set ((cidx a3 a1 a2) : Int).toNat a4).set ((cidx a1 a3 a2) : Int).toNat (wrap64 (-a4))).set ((cidx a3 a2 a1) : Int).toNat (wrap64 (-a4))).set ((cidx a2 a1 a3) : Int).toNat (wrap64 (-a4)))) else (none)) else (none)) else (none)) else (none)) else (none)) else (none)) else (none)
def impl_chi_set.T0 : Bool × List (List Nat × List Nat) := (true, [([], []), ([], []), ([], []), ([], []), ([], []), ([], []), ([], []), ([], []), ([], []), ([], []), ([], []), ([], []), ([], []), ([], []), ([], []), ([0], [0]), ([15], [15]), ([16, 1], [1, 16]), ([17, 2], [2, 17]), ([18, 3, 0, 1, 2, 3, 12], [3, 18]), ([19, 12, 0, 1, 2, 3, 12], [12, 19]), ([4], [4]), ([21], [21]), ([22, 5], [5, 22]), ([23, 6], [6, 23]), ([24, 7, 0, 1, 2, 3, 4, 5, 6, 7, 12, 13, 15, 16, 17, 18, 19, 20], [7, 24]), ([25, 13, 20, 0, 1, 2, 3, 4, 5, 6, 7, 12, 13, 15, 16, 17, 18, 19, 20], [13, 25]), ([8], [8]), ([27], [27]), ([28, 9], [9, 28]), ([29, 10], [10, 29]), ([30, 11, 0, 1, 2, 3, 4, 5, 6, 7, 8, 9, 10, 11, 12, 13, 14, 15, 16, 17, 18, 19, 20, 21, 22, 23, 24, 25, 26], [11, 30]), ([31, 14, 26, 0, 1, 2, 3, 4, 5, 6, 7, 8, 9, 10, 11, 12, 13, 14, 15, 16, 17, 18, 19, 20, 21, 22, 23, 24, 25, 26], [14, 31])])
def impl_chi_set.B0 : List Nat := [0, 0, 0, 0, 0, 0, 0, 0, 0, 0, 0, 0, 0, 0, 0, 1, 32769, 98307, 229383, 495631, 1019919, 16, 2097168, 6291504, 14680176, 33534207, 67088639, 256, 134217984, 402653952, 939525888, 2147483647, 4294967295]
theorem impl_chi_set.tab0 : rtab .any (opsOf Try.f60 0) = impl_chi_set.T0 := by kernel_rfl
theorem impl_chi_set.bits0 : waitsOk impl_chi_set.T0.2 impl_chi_set.B0 = true := by kernel_rfl
def impl_chi_set.T1 : Bool × List (List Nat × List Nat) := (true, [([], []), ([], []), ([], []), ([], []), ([], []), ([], []), ([], []), ([], []), ([], []), ([], []), ([], []), ([], []), ([], []), ([12], [12]), ([], []), ([14], [14]), ([], []), ([16], [16]), ([0], [0]), ([18], [18]), ([19, 1], [1, 19]), ([20, 2], [2, 20]), ([21, 3, 0, 1, 2, 3, 12, 13], [3, 21]), ([22, 13, 0, 1, 2, 3, 12, 13], [13, 22]), ([4], [4]), ([24], [24]), ([25, 5], [5, 25]), ([26, 6], [6, 26]), ([27, 7, 0, 1, 2, 3, 4, 5, 6, 7, 12, 13, 14, 15, 18, 19, 20, 21, 22, 23], [7, 27]), ([28, 15, 23, 0, 1, 2, 3, 4, 5, 6, 7, 12, 13, 14, 15, 18, 19, 20, 21, 22, 23], [15, 28]), ([8], [8]), ([30], [30]), ([31, 9], [9, 31]), ([32, 10], [10, 32]), ([33, 11, 0, 1, 2, 3, 4, 5, 6, 7, 8, 9, 10, 11, 12, 13, 14, 15, 16, 17, 18, 19, 20, 21, 22, 23, 24, 25, 26, 27, 28, 29], [11, 33]), ([34, 17, 29, 0, 1, 2, 3, 4, 5, 6, 7, 8, 9, 10, 11, 12, 13, 14, 15, 16, 17, 18, 19, 20, 21, 22, 23, 24, 25, 26, 27, 28, 29], [17, 34])])
def impl_chi_set.B1 : List Nat := [0, 0, 0, 0, 0, 0, 0, 0, 0, 0, 0, 0, 0, 4096, 0, 16384, 0, 65536, 1, 262145, 786435, 1835015, 3944463, 8138767, 16, 16777232, 50331696, 117440624, 268235007, 536670463, 256, 1073742080, 3221226240, 7516194560, 17179869183, 34359738367]
theorem impl_chi_set.tab1 : rtab .any (opsOf Try.f60 1) = impl_chi_set.T1 := by kernel_rfl
theorem impl_chi_set.bits1 : waitsOk impl_chi_set.T1.2 impl_chi_set.B1 = true := by kernel_rfl
set_option maxHeartbeats 8000000 in
set_option maxRecDepth 100000 in
theorem impl_chi_set.calls (P0_ : Nat → Prop) (u9000_ : Value) (l0 : List Int) (a1 : Int) (a2 : Int) (a3 : Int) (a4 : Int) (r : List Int) (w0 w : World) (hB : Below w0.heap.size w0 w) (ho0 : Kd.R (Kd.int .i64) 69 w w0.heap.size P0_ u9000_ l0) (h : impl_chi_set.f l0 a1 a2 a3 a4 = some r) :
  Calls Try.prog 60 #[pv u9000_, .int .i64 a1, .int .i64 a2, .int .i64 a3, .int .i64 a4] w fun e w' => e = .returned (.tuple #[]) ∧ Kd.R (Kd.int .i64) 69 w' w0.heap.size (fun k_ => (P0_ k_ ∨ w.heap.size ≤ k_)) u9000_ r ∧ Below w0.heap.size w0 w' ∧ Kept w w' (fun k_ => P0_ k_) := by
 have HO0 := Aside0.mk (show Kd.R (Kd.int .i64) 69 w w0.heap.size (fun k_ => (P0_ k_ ∨ w.heap.size ≤ k_)) u9000_ l0 from Kd.R_mono ho0 (fun k_ hk => (.inl hk)))
 have HK := Aside0.mk (Kept.refl w (fun k_ => P0_ k_))
 have HW0 := Aside0.mk hB.size
 have HB := Aside0.mk hB
 clear hB
 have H : (if 0 ≤ a1 then (if a1 < 7 then (if 0 ≤ a2 then (if a2 < 7 then (if 0 ≤ a3 then (if a3 < 7 then (if 344 ≤ (l0.length : Int) then (some ((((((l0.set ((cidx a1 a2 a3) : Int).toNat a4).set ((cidx a2 a3 a1) : Int).toNat a4).set ((cidx a3 a1 a2) : Int).toNat a4).set ((cidx a1 a3 a2) : Int).toNat (wrap64 (-a4))).set ((cidx a3 a2 a1) : Int).toNat (wrap64 (-a4))).set ((cidx a2 a1 a3) : Int).toNat (wrap64 (-a4)))) else (none)) else (none)) else (none)) else (none)) else (none)) else (none)) else (none)) = some r := h
 clear h
 by_cases c6 : 0 ≤ a1
 ·rw [if_pos c6] at H
  have c6b0 : decide (0 ≤ a1) = true := decide_eq_true c6
  clear c6
  by_cases c7 : a1 < 7
  ·rw [if_pos c7] at H
   have c7b0 : decide (a1 < 7) = true := decide_eq_true c7
   clear c7
   by_cases c8 : 0 ≤ a2
   ·rw [if_pos c8] at H
    have c8b0 : decide (0 ≤ a2) = true := decide_eq_true c8
    clear c8
    by_cases c9 : a2 < 7
    ·rw [if_pos c9] at H
     have c9b0 : decide (a2 < 7) = true := decide_eq_true c9
     clear c9
     by_cases c10 : 0 ≤ a3
     ·rw [if_pos c10] at H
      have c10b0 : decide (0 ≤ a3) = true := decide_eq_true c10
      clear c10
      by_cases c11 : a3 < 7
      ·rw [if_pos c11] at H
       have c11b0 : decide (a3 < 7) = true := decide_eq_true c11
       clear c11
       by_cases c12 : 344 ≤ (l0.length : Int)
       ·rw [if_pos c12] at H
        have c12b0 := eq_true c12
        have c12b1 : decide (344 ≤ (l0.length : Int)) = true := decide_eq_true c12
        clear c12
        obtain ⟨y232, hy232⟩ : ∃ y_ : List Int, y_ = (l0.set ((cidx a1 a2 a3) : Int).toNat a4) := ⟨_, rfl⟩
        replace H : (some (((((y232.set ((cidx a2 a3 a1) : Int).toNat a4).set ((cidx a3 a1 a2) : Int).toNat a4).set ((cidx a1 a3 a2) : Int).toNat (wrap64 (-a4))).set ((cidx a3 a2 a1) : Int).toNat (wrap64 (-a4))).set ((cidx a2 a1 a3) : Int).toNat (wrap64 (-a4)))) = some r := by first | (rw [hy232]; with_reducible exact H) | (have H2_ := (Option.bind_some _ _).symm.trans H; rw [hy232]; with_reducible exact H2_) | (have H2_ := (Option.bind_some _ _).symm.trans H; with_reducible exact H2_) | with_reducible exact H | (rw [hy232]; exact H) | exact H
        have Ny232 := Aside0.mk hy232
        clear hy232
        have c14b0 := eq_true (of_decide_eq_true (by first | (with_reducible assumption) | assumption) : 344 ≤ (l0.length : Int))
        obtain ⟨y233, hy233⟩ : ∃ y_ : List Int, y_ = (y232.set ((cidx a2 a3 a1) : Int).toNat a4) := ⟨_, rfl⟩
        replace H : (some ((((y233.set ((cidx a3 a1 a2) : Int).toNat a4).set ((cidx a1 a3 a2) : Int).toNat (wrap64 (-a4))).set ((cidx a3 a2 a1) : Int).toNat (wrap64 (-a4))).set ((cidx a2 a1 a3) : Int).toNat (wrap64 (-a4)))) = some r := by first | (rw [hy233]; with_reducible exact H) | (have H2_ := (Option.bind_some _ _).symm.trans H; rw [hy233]; with_reducible exact H2_) | (have H2_ := (Option.bind_some _ _).symm.trans H; with_reducible exact H2_) | with_reducible exact H | (rw [hy233]; exact H) | exact H
        have Ny233 := Aside0.mk hy233
        clear hy233
        have c16b0 := eq_true (of_decide_eq_true (by first | (with_reducible assumption) | assumption) : 344 ≤ (l0.length : Int))
        obtain ⟨y234, hy234⟩ : ∃ y_ : List Int, y_ = (y233.set ((cidx a3 a1 a2) : Int).toNat a4) := ⟨_, rfl⟩
        replace H : (some (((y234.set ((cidx a1 a3 a2) : Int).toNat (wrap64 (-a4))).set ((cidx a3 a2 a1) : Int).toNat (wrap64 (-a4))).set ((cidx a2 a1 a3) : Int).toNat (wrap64 (-a4)))) = some r := by first | (rw [hy234]; with_reducible exact H) | (have H2_ := (Option.bind_some _ _).symm.trans H; rw [hy234]; with_reducible exact H2_) | (have H2_ := (Option.bind_some _ _).symm.trans H; with_reducible exact H2_) | with_reducible exact H | (rw [hy234]; exact H) | exact H
        have Ny234 := Aside0.mk hy234
        clear hy234
        have c18b0 := eq_true (of_decide_eq_true (by first | (with_reducible assumption) | assumption) : 344 ≤ (l0.length : Int))
        obtain ⟨y235, hy235⟩ : ∃ y_ : List Int, y_ = (y234.set ((cidx a1 a3 a2) : Int).toNat (wrap64 (-a4))) := ⟨_, rfl⟩
        replace H : (some ((y235.set ((cidx a3 a2 a1) : Int).toNat (wrap64 (-a4))).set ((cidx a2 a1 a3) : Int).toNat (wrap64 (-a4)))) = some r := by first | (rw [hy235]; with_reducible exact H) | (have H2_ := (Option.bind_some _ _).symm.trans H; rw [hy235]; with_reducible exact H2_) | (have H2_ := (Option.bind_some _ _).symm.trans H; with_reducible exact H2_) | with_reducible exact H | (rw [hy235]; exact H) | exact H
        have Ny235 := Aside0.mk hy235
        clear hy235
        have c20b0 := eq_true (of_decide_eq_true (by first | (with_reducible assumption) | assumption) : 344 ≤ (l0.length : Int))
        obtain ⟨y236, hy236⟩ : ∃ y_ : List Int, y_ = (y235.set ((cidx a3 a2 a1) : Int).toNat (wrap64 (-a4))) := ⟨_, rfl⟩
        replace H : (some (y236.set ((cidx a2 a1 a3) : Int).toNat (wrap64 (-a4)))) = some r := by first | (rw [hy236]; with_reducible exact H) | (have H2_ := (Option.bind_some _ _).symm.trans H; rw [hy236]; with_reducible exact H2_) | (have H2_ := (Option.bind_some _ _).symm.trans H; with_reducible exact H2_) | with_reducible exact H | (rw [hy236]; exact H) | exact H
        have Ny236 := Aside0.mk hy236
        clear hy236
        have c22b0 := eq_true (of_decide_eq_true (by first | (with_reducible assumption) | assumption) : 344 ≤ (l0.length : Int))
        obtain ⟨y237, hy237⟩ : ∃ y_ : List Int, y_ = (y236.set ((cidx a2 a1 a3) : Int).toNat (wrap64 (-a4))) := ⟨_, rfl⟩
        replace H : (some y237) = some r := by first | (rw [hy237]; with_reducible exact H) | (have H2_ := (Option.bind_some _ _).symm.trans H; rw [hy237]; with_reducible exact H2_) | (have H2_ := (Option.bind_some _ _).symm.trans H; with_reducible exact H2_) | with_reducible exact H | (rw [hy237]; exact H) | exact H
        have Ny237 := Aside0.mk hy237
        clear hy237
        obtain rfl := Option.some.inj H
        go_enter Try.func60, Try.ntmps60
        try go_wp2
        have n0_ := Aside0.mk (Kd.R_drew HO0.out)
        have n1_ := Aside0.mk (Kept.drew HK.out)
        have n2_ := Aside0.mk (below_drew1 HB.out)
        clear HO0
        clear HK
        clear HB
        have HO0 := n0_
        have HK := n1_
        have HB := n2_
        clear n0_ n1_ n2_
        have cp13_0 : 0 ≤ (a1 : Int) := of_decide_eq_true (by first | (with_reducible assumption) | assumption)
        have cq13_0 : (a1 : Int) < 7 := of_decide_eq_true (by first | (with_reducible assumption) | assumption)
        have cp13_1 : 0 ≤ (a2 : Int) := of_decide_eq_true (by first | (with_reducible assumption) | assumption)
        have cq13_1 : (a2 : Int) < 7 := of_decide_eq_true (by first | (with_reducible assumption) | assumption)
        have cp13_2 : 0 ≤ (a3 : Int) := of_decide_eq_true (by first | (with_reducible assumption) | assumption)
        have cq13_2 : (a3 : Int) < 7 := of_decide_eq_true (by first | (with_reducible assumption) | assumption)
        have cl13 : (344 : Int) ≤ ((l0.length : Int) : Int) := (by first | exact of_decide_eq_true (by first | (with_reducible assumption) | assumption) | exact of_eq_true (by first | (with_reducible assumption) | assumption))
        have p13 : 0 ≤ ((cidx a1 a2 a3) : Int) := cidx_nonneg _ _ _
        have q13 : ((cidx a1 a2 a3) : Int) < ((l0.length : Int) : Int) := cidx_lt cq13_0 cq13_1 cq13_2 cl13
        replace cp13_0 := eq_true cp13_0
        replace cq13_0 := eq_true cq13_0
        replace cp13_1 := eq_true cp13_1
        replace cq13_1 := eq_true cq13_1
        replace cp13_2 := eq_true cp13_2
        replace cq13_2 := eq_true cq13_2
        obtain ⟨go13, co13, eo13, gb13, gl13, cl13, HG13⟩ := Kd.R_form HO0.out (by omega)
        (first | cases eo13 | (injection eo13 with ea_ en_ ec_; (first | subst ea_ | (injection ea_ with ea_; subst ea_)); subst ec_; clear en_))
        have GB13 := Aside0.mk gb13
        have GG13 := Aside0.mk HG13
        clear gb13 gl13 HG13
        have HMgo13 := Aside0.mk (show (P0_ go13 ∨ w.heap.size ≤ go13) from (HO0.out.1 _ rfl))
        obtain ⟨hx13_0, hf13_0⟩ := Kd.R_celln 0 HO0.out ((cidx a1 a2 a3) : Int) p13 q13
        simp only [cidx_nat] at hx13_0 hf13_0
        replace p13 := eq_true p13
        replace q13 := eq_true q13
        have HP25 := Kd.R_putn HO0.out ((cidx a1 a2 a3) : Int) a4
        rw [← Ny232.out] at HP25
        have HQ25 := Aside0.mk HP25
        clear HP25
        have cp15_0 : 0 ≤ (a2 : Int) := of_decide_eq_true (by first | (with_reducible assumption) | assumption)
        have cq15_0 : (a2 : Int) < 7 := of_decide_eq_true (by first | (with_reducible assumption) | assumption)
        have cp15_1 : 0 ≤ (a3 : Int) := of_decide_eq_true (by first | (with_reducible assumption) | assumption)
        have cq15_1 : (a3 : Int) < 7 := of_decide_eq_true (by first | (with_reducible assumption) | assumption)
        have cp15_2 : 0 ≤ (a1 : Int) := of_decide_eq_true (by first | (with_reducible assumption) | assumption)
        have cq15_2 : (a1 : Int) < 7 := of_decide_eq_true (by first | (with_reducible assumption) | assumption)
        have cl15 : (344 : Int) ≤ ((l0.length : Int) : Int) := (by first | exact of_decide_eq_true (by first | (with_reducible assumption) | assumption) | exact of_eq_true (by first | (with_reducible assumption) | assumption))
        have p15 : 0 ≤ ((cidx a2 a3 a1) : Int) := cidx_nonneg _ _ _
        have q15 : ((cidx a2 a3 a1) : Int) < ((l0.length : Int) : Int) := cidx_lt cq15_0 cq15_1 cq15_2 cl15
        replace cp15_0 := eq_true cp15_0
        replace cq15_0 := eq_true cq15_0
        replace cp15_1 := eq_true cp15_1
        replace cq15_1 := eq_true cq15_1
        replace cp15_2 := eq_true cp15_2
        replace cq15_2 := eq_true cq15_2
        obtain ⟨hx15_0, hf15_0⟩ := Kd.R_celln 0 HQ25.out ((cidx a2 a3 a1) : Int) p15 q15
        simp only [cidx_nat] at hx15_0 hf15_0
        replace p15 := eq_true p15
        replace q15 := eq_true q15
        have HP26 := Kd.R_putn HQ25.out ((cidx a2 a3 a1) : Int) a4
        rw [← Ny233.out] at HP26
        have HQ26 := Aside0.mk HP26
        clear HP26
        have cp17_0 : 0 ≤ (a3 : Int) := of_decide_eq_true (by first | (with_reducible assumption) | assumption)
        have cq17_0 : (a3 : Int) < 7 := of_decide_eq_true (by first | (with_reducible assumption) | assumption)
        have cp17_1 : 0 ≤ (a1 : Int) := of_decide_eq_true (by first | (with_reducible assumption) | assumption)
        have cq17_1 : (a1 : Int) < 7 := of_decide_eq_true (by first | (with_reducible assumption) | assumption)
        have cp17_2 : 0 ≤ (a2 : Int) := of_decide_eq_true (by first | (with_reducible assumption) | assumption)
        have cq17_2 : (a2 : Int) < 7 := of_decide_eq_true (by first | (with_reducible assumption) | assumption)
        have cl17 : (344 : Int) ≤ ((l0.length : Int) : Int) := (by first | exact of_decide_eq_true (by first | (with_reducible assumption) | assumption) | exact of_eq_true (by first | (with_reducible assumption) | assumption))
        have p17 : 0 ≤ ((cidx a3 a1 a2) : Int) := cidx_nonneg _ _ _
        have q17 : ((cidx a3 a1 a2) : Int) < ((l0.length : Int) : Int) := cidx_lt cq17_0 cq17_1 cq17_2 cl17
        replace cp17_0 := eq_true cp17_0
        replace cq17_0 := eq_true cq17_0
        replace cp17_1 := eq_true cp17_1
        replace cq17_1 := eq_true cq17_1
        replace cp17_2 := eq_true cp17_2
        replace cq17_2 := eq_true cq17_2
        obtain ⟨hx17_0, hf17_0⟩ := Kd.R_celln 0 HQ26.out ((cidx a3 a1 a2) : Int) p17 q17
        simp only [cidx_nat] at hx17_0 hf17_0
        replace p17 := eq_true p17
        replace q17 := eq_true q17
        have HP27 := Kd.R_putn HQ26.out ((cidx a3 a1 a2) : Int) a4
        rw [← Ny234.out] at HP27
        have HQ27 := Aside0.mk HP27
        clear HP27
        refine start_ (n := 33) (S := fun w' => True) (ds := [20, 26, 32]) #[false, false, false, false, false, false, false, false, false, false, false, false, false, false, false, false, false, false, false, false, false, false, false, false, false, false, false, false, false, false, false, false, false] (by kernel_rfl) rfl rfl trivial (fun hHeld => ?_); refine with_tabW impl_chi_set.tab0 impl_chi_set.bits0 (fun HT_ HW_ => ?_)
        generalize w.drew = w24 at HO0 HK HB GG13 HQ25 HQ26 HQ27 hf13_0 hf15_0 hf17_0 hx13_0 hx15_0 hx17_0 hHeld ⊢
        refine pu 0 10 HT_ ?_
        refine pu 1 11 HT_ ?_
        refine pu 2 12 HT_ ?_
        refine pu 3 13 HT_ ?_
        refine pu 4 14 HT_ ?_
        refine pu 5 15 HT_ ?_
        refine pu 6 16 HT_ ?_
        refine pu 7 17 HT_ ?_
        refine pu 8 18 HT_ ?_
        refine pu 9 19 HT_ ?_
        refine pu 10 20 HT_ ?_
        refine pu 11 21 HT_ ?_
        refine pu 12 22 HT_ ?_
        refine pu 13 23 HT_ ?_
        refine pu 14 24 HT_ ?_
        refine pu 15 25 HT_ ?_
        refine pu 16 26 HT_ ?_
        refine pu 17 27 HT_ ?_
        refine pu 18 28 HT_ ?_
        refine pu 19 29 HT_ ?_
        refine pu 21 30 HT_ ?_
        refine pu 22 31 HT_ ?_
        refine pu 23 32 HT_ ?_
        refine pu 24 33 HT_ ?_
        refine pu 27 35 HT_ ?_
        refine pu 28 36 HT_ ?_
        refine pu 29 37 HT_ ?_
        refine pu 30 38 HT_ ?_
        refine last_ (i := 20) (N := none) #[true, true, true, true, true, true, true, true, true, true, true, true, true, true, true, true, true, true, true, true, true, true, true, true, true, false, false, true, true, true, true, false, false] rfl rfl (one_of HT_.out (by kernel_rfl)) (by decide) (fun K hK => ?_)
        refine skip_ (w1 := ?_) (by rfl) rfl ?_ ?_
        rotate_left
        ·go_simp
         rfl
        refine hK.out _ _ ?_
        clear hK K
        refine pu 25 34 HT_ ?_
        refine last_ (i := 26) (N := none) #[true, true, true, true, true, true, true, true, true, true, true, true, true, true, true, true, true, true, true, true, true, true, true, true, true, true, true, true, true, true, true, false, false] rfl rfl (one_of HT_.out (by kernel_rfl)) (by decide) (fun K hK => ?_)
        refine skip_ (w1 := ?_) (by rfl) rfl ?_ ?_
        rotate_left
        ·go_simp
         rfl
        refine hK.out _ _ ?_
        clear hK K
        refine pu 31 39 HT_ ?_
        refine last_ (i := 32) (N := none) #[true, true, true, true, true, true, true, true, true, true, true, true, true, true, true, true, true, true, true, true, true, true, true, true, true, true, true, true, true, true, true, true, true] rfl rfl (one_of HT_.out (by kernel_rfl)) (by decide) (fun K hK => ?_)
        refine skip_ (w1 := ?_) (by rfl) rfl ?_ ?_
        rotate_left
        ·go_simp
         rfl
        refine hK.out _ _ ?_
        clear hK K
        refine done_ (done_of HT_.out (by kernel_rfl)) ?_
        try go_wp2
        have n0_ : Aside0 (Kd.R (Kd.int .i64) 69 (((w24.setCell ⟨go13, (1 + (a1 : Int).toNat * 49 + (a2 : Int).toNat * 7 + (a3 : Int).toNat), none⟩ (.int .i64 a4)).setCell ⟨go13, (1 + (a2 : Int).toNat * 49 + (a3 : Int).toNat * 7 + (a1 : Int).toNat), none⟩ (.int .i64 a4)).setCell ⟨go13, (1 + (a3 : Int).toNat * 49 + (a1 : Int).toNat * 7 + (a2 : Int).toNat), none⟩ (.int .i64 a4)) w0.heap.size (fun k_ => (P0_ k_ ∨ w.heap.size ≤ k_)) (.slice (some ⟨go13, 0, none⟩) l0.length co13) y234) := ⟨by (with_reducible repeat (first | apply Kd.R_alloc | apply Kd.R_drewN | apply Kd.R_drew)); exact HQ27.out⟩
        have n1_ : Aside0 (Kept w (((w24.setCell ⟨go13, (1 + (a1 : Int).toNat * 49 + (a2 : Int).toNat * 7 + (a3 : Int).toNat), none⟩ (.int .i64 a4)).setCell ⟨go13, (1 + (a2 : Int).toNat * 49 + (a3 : Int).toNat * 7 + (a1 : Int).toNat), none⟩ (.int .i64 a4)).setCell ⟨go13, (1 + (a3 : Int).toNat * 49 + (a1 : Int).toNat * 7 + (a2 : Int).toNat), none⟩ (.int .i64 a4)) (fun k_ => P0_ k_)) := ⟨by repeat (first | (with_reducible first | exact HK.out | apply Kept.alloc | apply Kept.drewN | apply Kept.drew | refine Kept.setCell ?_ HMgo13.out _ | refine Kept.setCell ?_ HMgo13.out _ | refine Kept.setCell ?_ HMgo13.out _) | exact HK.out)⟩
        have n2_ : Aside0 (Below w0.heap.size w0 (((w24.setCell ⟨go13, (1 + (a1 : Int).toNat * 49 + (a2 : Int).toNat * 7 + (a3 : Int).toNat), none⟩ (.int .i64 a4)).setCell ⟨go13, (1 + (a2 : Int).toNat * 49 + (a3 : Int).toNat * 7 + (a1 : Int).toNat), none⟩ (.int .i64 a4)).setCell ⟨go13, (1 + (a3 : Int).toNat * 49 + (a1 : Int).toNat * 7 + (a2 : Int).toNat), none⟩ (.int .i64 a4))) := ⟨by repeat (first | (with_reducible first | exact HB.out | apply below_alloc | apply pw_below_drewN | apply below_drew1 | refine below_set ?_ GB13.out | refine below_set ?_ GB13.out | refine below_set ?_ GB13.out) | exact HB.out)⟩
        (try clear HO0)
        (try clear HK)
        (try clear HB)
        generalize (((w24.setCell ⟨go13, (1 + (a1 : Int).toNat * 49 + (a2 : Int).toNat * 7 + (a3 : Int).toNat), none⟩ (.int .i64 a4)).setCell ⟨go13, (1 + (a2 : Int).toNat * 49 + (a3 : Int).toNat * 7 + (a1 : Int).toNat), none⟩ (.int .i64 a4)).setCell ⟨go13, (1 + (a3 : Int).toNat * 49 + (a1 : Int).toNat * 7 + (a2 : Int).toNat), none⟩ (.int .i64 a4)) = w28 at n0_ n1_ n2_ ⊢
        have HO0 := n0_
        have HK := n1_
        have HB := n2_
        clear n0_ n1_ n2_
        have n0_ := Aside0.mk (Kd.R_drew HO0.out)
        have n1_ := Aside0.mk (Kept.drew HK.out)
        have n2_ := Aside0.mk (below_drew1 HB.out)
        clear HO0
        clear HK
        clear HB
        have HO0 := n0_
        have HK := n1_
        have HB := n2_
        clear n0_ n1_ n2_
        have cp19_0 : 0 ≤ (a1 : Int) := of_decide_eq_true (by first | (with_reducible assumption) | assumption)
        have cq19_0 : (a1 : Int) < 7 := of_decide_eq_true (by first | (with_reducible assumption) | assumption)
        have cp19_1 : 0 ≤ (a3 : Int) := of_decide_eq_true (by first | (with_reducible assumption) | assumption)
        have cq19_1 : (a3 : Int) < 7 := of_decide_eq_true (by first | (with_reducible assumption) | assumption)
        have cp19_2 : 0 ≤ (a2 : Int) := of_decide_eq_true (by first | (with_reducible assumption) | assumption)
        have cq19_2 : (a2 : Int) < 7 := of_decide_eq_true (by first | (with_reducible assumption) | assumption)
        have cl19 : (344 : Int) ≤ ((l0.length : Int) : Int) := (by first | exact of_decide_eq_true (by first | (with_reducible assumption) | assumption) | exact of_eq_true (by first | (with_reducible assumption) | assumption))
        have p19 : 0 ≤ ((cidx a1 a3 a2) : Int) := cidx_nonneg _ _ _
        have q19 : ((cidx a1 a3 a2) : Int) < ((l0.length : Int) : Int) := cidx_lt cq19_0 cq19_1 cq19_2 cl19
        replace cp19_0 := eq_true cp19_0
        replace cq19_0 := eq_true cq19_0
        replace cp19_1 := eq_true cp19_1
        replace cq19_1 := eq_true cq19_1
        replace cp19_2 := eq_true cp19_2
        replace cq19_2 := eq_true cq19_2
        obtain ⟨hx19_0, hf19_0⟩ := Kd.R_celln 0 HO0.out ((cidx a1 a3 a2) : Int) p19 q19
        simp only [cidx_nat] at hx19_0 hf19_0
        replace p19 := eq_true p19
        replace q19 := eq_true q19
        have HP30 := Kd.R_putn HO0.out ((cidx a1 a3 a2) : Int) (wrap64 (-a4))
        rw [← Ny235.out] at HP30
        have HQ30 := Aside0.mk HP30
        clear HP30
        have cp21_0 : 0 ≤ (a3 : Int) := of_decide_eq_true (by first | (with_reducible assumption) | assumption)
        have cq21_0 : (a3 : Int) < 7 := of_decide_eq_true (by first | (with_reducible assumption) | assumption)
        have cp21_1 : 0 ≤ (a2 : Int) := of_decide_eq_true (by first | (with_reducible assumption) | assumption)
        have cq21_1 : (a2 : Int) < 7 := of_decide_eq_true (by first | (with_reducible assumption) | assumption)
        have cp21_2 : 0 ≤ (a1 : Int) := of_decide_eq_true (by first | (with_reducible assumption) | assumption)
        have cq21_2 : (a1 : Int) < 7 := of_decide_eq_true (by first | (with_reducible assumption) | assumption)
        have cl21 : (344 : Int) ≤ ((l0.length : Int) : Int) := (by first | exact of_decide_eq_true (by first | (with_reducible assumption) | assumption) | exact of_eq_true (by first | (with_reducible assumption) | assumption))
        have p21 : 0 ≤ ((cidx a3 a2 a1) : Int) := cidx_nonneg _ _ _
        have q21 : ((cidx a3 a2 a1) : Int) < ((l0.length : Int) : Int) := cidx_lt cq21_0 cq21_1 cq21_2 cl21
        replace cp21_0 := eq_true cp21_0
        replace cq21_0 := eq_true cq21_0
        replace cp21_1 := eq_true cp21_1
        replace cq21_1 := eq_true cq21_1
        replace cp21_2 := eq_true cp21_2
        replace cq21_2 := eq_true cq21_2
        obtain ⟨hx21_0, hf21_0⟩ := Kd.R_celln 0 HQ30.out ((cidx a3 a2 a1) : Int) p21 q21
        simp only [cidx_nat] at hx21_0 hf21_0
        replace p21 := eq_true p21
        replace q21 := eq_true q21
        have HP31 := Kd.R_putn HQ30.out ((cidx a3 a2 a1) : Int) (wrap64 (-a4))
        rw [← Ny236.out] at HP31
        have HQ31 := Aside0.mk HP31
        clear HP31
        have cp23_0 : 0 ≤ (a2 : Int) := of_decide_eq_true (by first | (with_reducible assumption) | assumption)
        have cq23_0 : (a2 : Int) < 7 := of_decide_eq_true (by first | (with_reducible assumption) | assumption)
        have cp23_1 : 0 ≤ (a1 : Int) := of_decide_eq_true (by first | (with_reducible assumption) | assumption)
        have cq23_1 : (a1 : Int) < 7 := of_decide_eq_true (by first | (with_reducible assumption) | assumption)
        have cp23_2 : 0 ≤ (a3 : Int) := of_decide_eq_true (by first | (with_reducible assumption) | assumption)
        have cq23_2 : (a3 : Int) < 7 := of_decide_eq_true (by first | (with_reducible assumption) | assumption)
        have cl23 : (344 : Int) ≤ ((l0.length : Int) : Int) := (by first | exact of_decide_eq_true (by first | (with_reducible assumption) | assumption) | exact of_eq_true (by first | (with_reducible assumption) | assumption))
        have p23 : 0 ≤ ((cidx a2 a1 a3) : Int) := cidx_nonneg _ _ _
        have q23 : ((cidx a2 a1 a3) : Int) < ((l0.length : Int) : Int) := cidx_lt cq23_0 cq23_1 cq23_2 cl23
        replace cp23_0 := eq_true cp23_0
        replace cq23_0 := eq_true cq23_0
        replace cp23_1 := eq_true cp23_1
        replace cq23_1 := eq_true cq23_1
        replace cp23_2 := eq_true cp23_2
        replace cq23_2 := eq_true cq23_2
        obtain ⟨hx23_0, hf23_0⟩ := Kd.R_celln 0 HQ31.out ((cidx a2 a1 a3) : Int) p23 q23
        simp only [cidx_nat] at hx23_0 hf23_0
        replace p23 := eq_true p23
        replace q23 := eq_true q23
        have HP32 := Kd.R_putn HQ31.out ((cidx a2 a1 a3) : Int) (wrap64 (-a4))
        rw [← Ny237.out] at HP32
        have HQ32 := Aside0.mk HP32
        clear HP32
        refine start_ (n := 36) (S := fun w' => True) (ds := [23, 29, 35]) #[false, false, false, false, false, false, false, false, false, false, false, false, false, false, false, false, false, false, false, false, false, false, false, false, false, false, false, false, false, false, false, false, false, false, false, false] (by kernel_rfl) rfl rfl trivial (fun hHeld => ?_); refine with_tabW impl_chi_set.tab1 impl_chi_set.bits1 (fun HT_ HW_ => ?_)
        generalize w28.drew = w29 at HO0 HK HB HQ27 HQ30 HQ31 HQ32 hf19_0 hf21_0 hf23_0 hx19_0 hx21_0 hx23_0 hHeld ⊢
        refine pu 0 40 HT_ ?_
        refine pu 1 41 HT_ ?_
        refine pu 2 42 HT_ ?_
        refine pu 3 43 HT_ ?_
        refine pu 4 44 HT_ ?_
        refine pu 5 45 HT_ ?_
        refine pu 6 46 HT_ ?_
        refine pu 7 47 HT_ ?_
        refine pu 8 48 HT_ ?_
        refine pu 9 49 HT_ ?_
        refine pu 10 50 HT_ ?_
        refine pu 11 51 HT_ ?_
        refine pu 12 52 HT_ ?_
        refine pu 13 53 HT_ ?_
        refine pu 14 54 HT_ ?_
        refine pu 15 55 HT_ ?_
        refine pu 16 56 HT_ ?_
        refine pu 17 57 HT_ ?_
        refine pu 18 58 HT_ ?_
        refine pu 19 59 HT_ ?_
        refine pu 20 60 HT_ ?_
        refine pu 21 61 HT_ ?_
        refine pu 22 62 HT_ ?_
        refine pu 24 63 HT_ ?_
        refine pu 25 64 HT_ ?_
        refine pu 26 65 HT_ ?_
        refine pu 27 66 HT_ ?_
        refine pu 30 68 HT_ ?_
        refine pu 31 69 HT_ ?_
        refine pu 32 70 HT_ ?_
        refine pu 33 71 HT_ ?_
        refine last_ (i := 23) (N := none) #[true, true, true, true, true, true, true, true, true, true, true, true, true, true, true, true, true, true, true, true, true, true, true, true, true, true, true, true, false, false, true, true, true, true, false, false] rfl rfl (one_of HT_.out (by kernel_rfl)) (by decide) (fun K hK => ?_)
        refine skip_ (w1 := ?_) (by rfl) rfl ?_ ?_
        rotate_left
        ·go_simp
         rfl
        refine hK.out _ _ ?_
        clear hK K
        refine pu 28 67 HT_ ?_
        refine last_ (i := 29) (N := none) #[true, true, true, true, true, true, true, true, true, true, true, true, true, true, true, true, true, true, true, true, true, true, true, true, true, true, true, true, true, true, true, true, true, true, false, false] rfl rfl (one_of HT_.out (by kernel_rfl)) (by decide) (fun K hK => ?_)
        refine skip_ (w1 := ?_) (by rfl) rfl ?_ ?_
        rotate_left
        ·go_simp
         rfl
        refine hK.out _ _ ?_
        clear hK K
        refine pu 34 72 HT_ ?_
        refine last_ (i := 35) (N := none) #[true, true, true, true, true, true, true, true, true, true, true, true, true, true, true, true, true, true, true, true, true, true, true, true, true, true, true, true, true, true, true, true, true, true, true, true] rfl rfl (one_of HT_.out (by kernel_rfl)) (by decide) (fun K hK => ?_)
        refine skip_ (w1 := ?_) (by rfl) rfl ?_ ?_
        rotate_left
        ·go_simp
         rfl
        refine hK.out _ _ ?_
        clear hK K
        refine done_ (done_of HT_.out (by kernel_rfl)) ?_
        try go_wp2
        first | go_end0 | ((try simp only [Exit.inBlock, Exit.then]); refine bodyPost_ret (results_none rfl _ _ _) rfl ?_)
        exact ⟨by first | rfl | (simp [errW_none, errW_some] <;> rfl) | (simp [*, errW_none, errW_some] <;> rfl), by (with_reducible repeat (first | apply Kd.R_alloc | apply Kd.R_drewN | apply Kd.R_drew)); exact HQ32.out, by repeat (first | (with_reducible first | exact HB.out | apply below_alloc | apply pw_below_drewN | apply below_drew1 | refine below_set ?_ GB13.out | refine below_set ?_ GB13.out | refine below_set ?_ GB13.out) | exact HB.out), by repeat (first | (with_reducible first | exact HK.out | apply Kept.alloc | apply Kept.drewN | apply Kept.drew | refine Kept.setCell ?_ HMgo13.out _ | refine Kept.setCell ?_ HMgo13.out _ | refine Kept.setCell ?_ HMgo13.out _) | exact HK.out)⟩
       ·rw [if_neg c12] at H
        exact absurd H (by simp)
      ·rw [if_neg c11] at H
       exact absurd H (by simp)
     ·rw [if_neg c10] at H
      exact absurd H (by simp)
    ·rw [if_neg c9] at H
     exact absurd H (by simp)
   ·rw [if_neg c8] at H
    exact absurd H (by simp)
  ·rw [if_neg c7] at H
   exact absurd H (by simp)
 ·rw [if_neg c6] at H
  exact absurd H (by simp)

end Go.Proofs.Ythibphndihjcaaa.P
