/- impl.CellSides: what a call of it computes. Conditions: none. -/
import Derived.Test.YthibphndihjcaaaOCells
import Derived.Test.YthibphndihjcaaaWAll2
import Derived.Test.YthibphndihjcaaaOSort
import Derived.Test.YthibphndihjcaaaP57
namespace Go.Proofs.Ythibphndihjcaaa.P
open Go.RowKit Go.Proofs.YthibphndihjcaaaW.PrintWords Go.Proofs.YthibphndihjcaaaW.PrintLast Go.Proofs.YthibphndihjcaaaW.PrintMore
set_option linter.unusedVariables false
set_option linter.unusedSimpArgs false

/-- The sides of the cells that are shut on both ends. -/
def csRow (row : List CE) (j : Nat) : List Int := ((row.take j).drop 1).map (·.f0)
def csAll (C : List (List CE)) : List Int := C.flatMap fun row => csRow row (row.length - 1)
def impl_CellSides.f (k : Nat) (a0 : Int) (l1 : List Int) : Option (List Int) := (impl_IsWiring.f k a0 l1).bind fun b => if b = true then ((impl_cellsOf.f k a0 l1).bind fun C => if (C.length < 1000 ∧ ∀ y ∈ C, y.length < 1000000) ∧ (csAll C).length < 1000000 then some ((csAll C).mergeSort fun x y => decide (x ≤ y)) else none) else some []
theorem impl_CellSides.mono : ∀ a0 a1 k, LeO (impl_CellSides.f k a0 a1) (impl_CellSides.f (k + 1) a0 a1) := by
  intro a0 a1 k
  unfold impl_CellSides.f
  refine LeO.bind (impl_IsWiring.mono _ _ _) (fun b => LeO.ite ?_ (LeO.refl _))
  exact LeO.bind (impl_cellsOf.mono _ _ _) (fun c => LeO.refl _)
set_option maxHeartbeats 8000000 in
set_option maxRecDepth 100000 in
theorem impl_CellSides.calls (k : Nat) (a0 : Int) (A1 : Option Addr) (c1 : Nat) (l1 : List Int) (r : List Int) (w : World) (hr1 : Kd.C (Kd.int .i64) w A1 l1.length l1) (hc1 : l1.length ≤ c1) (h : impl_CellSides.f k a0 l1 = some r) :
    Calls Try.prog 30 #[.int .i64 a0, .slice A1 l1.length c1] w fun e w' => ∃ v0_ : Value, e = .returned (v0_) ∧ Kd.R (Kd.int .i64) 3 w' w.heap.size (fun _ => True) v0_ r ∧ Below w.heap.size w w' := by
  have HR1 := Aside0.mk hr1
  have HC1 := Aside0.mk hc1
  clear hr1 hc1
  have H := h
  clear h
  unfold impl_CellSides.f at H
  replace H := Option.bind_eq_some_iff.mp H
  obtain ⟨b, A30, H⟩ := H
  have A3 := Aside0.mk A30
  clear A30
  cases b with
  | false =>
    simp only [Bool.false_eq_true, if_false] at H
    obtain rfl := Option.some.inj H
    clear H
    go_enter Try.func30, Try.ntmps30
    go_wp2_with (first | ((with_reducible refine gate_callee (f := 52) rfl ?_); refine gL (some 11) rfl rfl Try.func52 (by kernel_rfl) rfl #[.int .i64 a0, .slice A1 l1.length c1] rfl ?_; (with_reducible refine (impl_IsWiring.calls k a0 _ _ l1 _ _ HR1.out HC1.out A3.out).mono ?_); rintro e w4 ⟨rfl, hb⟩; refine ⟨_, rfl, ?_⟩; have HB := Aside0.mk hb; clear hb))
    go_ret
    exact ⟨_, rfl, Kd.R_nil _ _ _ _ _, HB.out⟩
  | true =>
    simp only [if_true] at H
    replace H := Option.bind_eq_some_iff.mp H
    obtain ⟨C, A40, H⟩ := H
    have A4 := Aside0.mk A40
    clear A40
    by_cases hl : (C.length < 1000 ∧ ∀ y ∈ C, y.length < 1000000) ∧ (csAll C).length < 1000000
    case neg => rw [if_neg hl] at H; exact absurd H (by simp)
    rw [if_pos hl] at H
    have HE := Aside0.mk (Option.some.inj H)
    have HL := Aside0.mk hl
    clear H hl
    go_enter Try.func30, Try.ntmps30
    go_wp2_with (first | ((with_reducible refine gate_callee (f := 52) rfl ?_); refine gL (some 11) rfl rfl Try.func52 (by kernel_rfl) rfl #[.int .i64 a0, .slice A1 l1.length c1] rfl ?_; (with_reducible refine (impl_IsWiring.calls k a0 _ _ l1 _ _ HR1.out HC1.out A3.out).mono ?_); rintro e w4 ⟨rfl, hb⟩; refine ⟨_, rfl, ?_⟩; have HB := Aside0.mk hb; clear hb) | ((with_reducible refine gate_callee (f := 54) rfl ?_); refine gL (some 15) rfl rfl Try.func54 (by kernel_rfl) rfl #[.int .i64 a0, .slice A1 l1.length c1] rfl ?_; (with_reducible refine (impl_cellsOf.calls k a0 _ _ l1 C _ (Kd.C_below HR1.out HB.out) HC1.out A4.out).mono ?_); rintro e w6 ⟨v6, rfl, ho, hb⟩; refine ⟨_, rfl, ?_⟩; obtain ⟨AC, cC, eo⟩ := Kd.S_slice ho; subst eo; have HC := Aside0.mk (Kd.S_reads' ho).2.2; have HB6 := Aside0.mk (below_step HB.out hb); clear HB hb ho))
    obtain ⟨N, hN⟩ : ∃ z : Int, (C.length : Int) = z := ⟨_, rfl⟩
    rw [hN]
    have HN := Aside0.mk hN
    clear hN
    have HE2 := Aside0.mk (show slices_Sort_int_int.f (csAll C) = some r by unfold slices_Sort_int_int.f; rw [if_pos (by have := HL.out.2; omega)]; exact congrArg some HE.out)
    go_loopg [5, 17] C.length (fun gg v5 v17 w' => ∃ i : Nat, v17 = .int .i64 i ∧ i ≤ C.length ∧ C.length - i ≤ gg ∧ Aside0 (Kd.R (Kd.int .i64) 3 w' w6.heap.size (fun _ => True) v5 (csAll (C.take i))) ∧ Aside0 (Below w6.heap.size w6 w'))
    case atStart => exact ⟨0, rfl, Nat.zero_le _, Nat.le_refl _, ⟨by simpa [csAll] using Kd.R_nil _ _ _ _ _⟩, ⟨Below.refl _ _⟩⟩
    case round =>
      obtain ⟨i, rfl, hi, hgg, HO, HB⟩ := hrel
      obtain ⟨I, hI⟩ : ∃ z : Int, (i : Int) = z := ⟨_, rfl⟩
      rw [hI]
      have hNN := HN.out
      by_cases hiN : I < N
      case neg =>
        have hd : decide (I < N) = false := decide_eq_false hiN
        have HI := Aside0.mk (show i = C.length by omega)
        clear hiN hI hi hgg hNN
        have n0_ := HO.out
        rw [HI.out, List.take_length] at n0_
        obtain ⟨ys, hys⟩ : ∃ z : List Int, csAll C = z := ⟨_, rfl⟩
        rw [hys] at n0_
        have HYS := Aside0.mk hys
        obtain ⟨A5, c5, e5⟩ := Kd.R_slice n0_
        subst e5
        have HO2 := Aside0.mk n0_
        clear n0_ HO hys
        go_wp2_with (first | ((with_reducible refine gate_callee (f := 64) rfl ?_); refine gL (some 38) rfl rfl Try.func64 (by kernel_rfl) rfl #[.slice A5 ys.length c5] rfl ?_; (with_reducible refine (slices_Sort_int_int.calls (fun _ => True) (.slice A5 ys.length c5) ys r w6 _ HB.out HO2.out (by rw [← HYS.out]; exact HE2.out)).mono ?_); rintro e w19 ⟨rfl, hy0, hb, hkp⟩; refine ⟨_, rfl, ?_⟩; have HO3 := Aside0.mk hy0; have HB3 := Aside0.mk hb; clear hy0 hb hkp))
        go_ret
        exact ⟨_, rfl, Kd.R_lower (Kd.R_mono HO3.out (fun _ _ => trivial)) HB6.out.size, below_step HB6.out HB3.out⟩
      case pos =>
        have hd : decide (I < N) = true := decide_eq_true hiN
        have h0 : 0 ≤ I := by omega
        have h0t := eq_true h0
        have hNt := eq_true hiN
        have hiC : I < (C.length : Int) := by omega
        obtain ⟨ad, Ar, cr, eA, hx, hl, hCr⟩ := at_LCE HC.out I h0 hiC
        subst eA
        replace hx := (HB.out.cell (World.block_lt_of_cell? _ _ hx)).trans hx
        obtain ⟨row, hrow⟩ : ∃ z : List CE, C.getD I.toNat [] = z := ⟨_, rfl⟩
        rw [hrow] at hx hl hCr
        have HROW := Aside0.mk hrow
        have HCR := Aside0.mk hCr
        have HRL := Aside0.mk (show row.length < 1000000 by rw [← hrow]; exact getD_of (P := fun y : List CE => y.length < 1000000) HL.out.1.2 (by simp) _)
        have HI := Aside0.mk (And.intro hI (And.intro hi (And.intro hgg hiC)))
        obtain ⟨R, hR⟩ : ∃ z : Int, (row.length : Int) = z := ⟨_, rfl⟩
        have HRR := Aside0.mk hR
        obtain ⟨L1, hL1⟩ : ∃ z : Int, wrap64 (R - 1) = z := ⟨_, rfl⟩
        have hL1w : IntKind.i64.wrap (R - 1) = L1 := (i64_w _).trans hL1
        have HL1 := Aside0.mk (show L1 = (row.length : Int) - 1 by have := HRL.out; rw [← hL1, ← hR]; unfold wrap64; omega)
        have hCt := eq_true hiC
        have HTOT := Aside0.mk (show ∀ j, j + 1 ≤ row.length → (csAll (C.take i) ++ csRow row j).length < 1000000 from fun j hj => by
          have hil : i < C.length := by omega
          have h1 : C.drop i = row :: C.drop (i + 1) := by rw [List.drop_eq_getElem_cons hil, ← hrow, show I.toNat = i by omega, List.getD_eq_getElem?_getD, List.getElem?_eq_getElem hil]; rfl
          have h2 := HL.out.2
          rw [← List.take_append_drop i C, h1] at h2
          unfold csAll at h2 ⊢
          rw [List.flatMap_append, List.flatMap_cons, List.length_append, List.length_append] at h2
          rw [List.length_append]
          have h3 : (csRow row j).length ≤ (csRow row (row.length - 1)).length := by
            unfold csRow
            simp only [List.length_map, List.length_drop, List.length_take]; omega
          omega)
        clear hiN hI hi hgg hNN hrow hCr hl hiC h0 hL1
        go_wp2
        clear hx hCt h0t hNt hd
        go_loopg [5, 8] row.length (fun gg v5 v8 w' => ∃ j : Nat, v8 = .int .i64 j ∧ 1 ≤ j ∧ (j ≤ row.length - 1 ∨ j = 1) ∧ row.length - j ≤ gg ∧ Aside0 (Kd.R (Kd.int .i64) 3 w' w6.heap.size (fun _ => True) v5 (csAll (C.take i) ++ csRow row j)) ∧ Aside0 (Below w6.heap.size w6 w'))
        case atStart =>
          have h_ : csRow row 1 = [] := by unfold csRow; rw [List.drop_eq_nil_of_le (by rw [List.length_take]; omega)]; rfl
          exact ⟨1, rfl, Nat.le_refl _, .inr rfl, by omega, ⟨by rw [h_, List.append_nil]; exact HO.out⟩, HB⟩
        case round =>
          clear HO HB
          obtain ⟨j, rfl, hj1, hj, hjg, HV, HB⟩ := hrel
          obtain ⟨J, hJ⟩ : ∃ z : Int, (j : Int) = z := ⟨_, rfl⟩
          rw [hJ]
          have hLL := HL1.out
          by_cases hjR : J < L1
          case neg =>
            have hdj : decide (J < L1) = false := decide_eq_false hjR
            have HJ := Aside0.mk (show csRow row j = csRow row (row.length - 1) by
              rcases hj with hj | hj
              · rw [show j = row.length - 1 by omega]
              · subst hj
                unfold csRow
                rw [List.drop_eq_nil_of_le (by rw [List.length_take]; omega), List.drop_eq_nil_of_le (by rw [List.length_take]; omega)])
            clear hjR hJ hj hj1 hjg hLL
            go_wp2
            go_roundg (C.length - (i + 1))
            case measure => have := HI.out; omega
            case rel =>
              have hi := HI.out
              have hw : wrap64 (I + 1) = ((i + 1 : Nat) : Int) := by have := HL.out.1.1; unfold wrap64; omega
              have e1 : csAll (C.take i) ++ csRow row j = csAll (C.take (i + 1)) := by
                have hil : i < C.length := by omega
                unfold csAll
                rw [List.take_succ_eq_append_getElem hil, List.flatMap_append, HJ.out, ← HROW.out, show I.toNat = i by omega, List.getD_eq_getElem?_getD, List.getElem?_eq_getElem hil]
                simp
              exact ⟨i + 1, by first | rfl | (rw [hw]; done) | exact congrArg (Value.int .i64) hw, by omega, Nat.le_refl _, ⟨by rw [← e1]; exact HV.out⟩, HB⟩
          case pos =>
            have hdj : decide (J < L1) = true := decide_eq_true hjR
            have hj0 : 0 ≤ J := by omega
            have hjl : J < (row.length : Int) := by omega
            have j0t := eq_true hj0
            have j1t := eq_true hjl
            have j2t : (J < R) = True := eq_true (by rw [← hR]; exact hjl)
            obtain ⟨ad2, e2, hx0, hx1, hx2, hx3, hx4⟩ := at_T58 HCR.out J hj0 hjl
            subst e2
            replace hx0 := (HB.out.cell (World.block_lt_of_cell? _ _ hx0)).trans hx0
            obtain ⟨cc, hcc⟩ : ∃ z : CE, rd_T58 row J = z := ⟨_, rfl⟩
            rw [hcc] at hx0
            have HCC := Aside0.mk hcc
            have HJ := Aside0.mk (And.intro hJ (And.intro hj1 (And.intro hj (And.intro hjg (And.intro hjl hjR)))))
            obtain ⟨xs, hxs⟩ : ∃ z : List Int, csAll (C.take i) ++ csRow row j = z := ⟨_, rfl⟩
            rw [hxs] at HV
            have HXS := Aside0.mk hxs
            clear hjR hJ hj hj1 hjg hLL hcc hjl hj0 hxs hx1 hx2 hx3 hx4
            go_wp2_with (first
              | ((with_reducible refine gate_builtin (b := .append) (xs := #[.tmp 28, .tmp 34]) rfl ?_); at_builtin; refine Kd.R_append (Kd.int .i64) (w0 := w6) w6.heap.size rfl (.tmp 28) (.tmp 34) 22 3 (.int .i64 0) 8 rfl Try.underlying22 info3 rfl (by decide) (by omega) u5 xs cc.f0 [.int .i64 cc.f0] (fun _ => True) (fun _ => False) rfl rfl rfl (fun _ hk => hk.elim) (fun _ _ => trivial) HV.out HB.out HB.out.size ?aL ?_; (case aL => have := HTOT.out j (by have := HJ.out; have := HL1.out; omega); rw [HXS.out] at this; omega); intro v33 w18 ho hb hg hat; have HV2 := Aside0.mk ho; have HB2 := Aside0.mk hb; clear HV HB ho hb hg hat))
            go_roundg (row.length - (j + 1))
            case measure => have := HJ.out; have := HL1.out; omega
            case rel =>
              have hj := HJ.out
              have hw : wrap64 (J + 1) = ((j + 1 : Nat) : Int) := by have := HRL.out; unfold wrap64; omega
              have e1 : xs ++ [cc.f0] = csAll (C.take i) ++ csRow row (j + 1) := by
                have hjl : j < row.length := by omega
                rw [← HXS.out, List.append_assoc]
                congr 1
                unfold csRow
                rw [List.take_succ_eq_append_getElem hjl, List.drop_append_of_le_length (by rw [List.length_take]; omega), List.map_append, ← HCC.out]
                congr 1
                show _ = [(row[j]).f0]
                rw [show rd_T58 row J = row.getD j ceZ by unfold rd_T58; rw [show J.toNat = j by omega], List.getD_eq_getElem?_getD, List.getElem?_eq_getElem hjl]
                rfl
              exact ⟨j + 1, by first | rfl | (rw [hw]; done) | exact congrArg (Value.int .i64) hw, by omega, .inl (by have := HL1.out; omega), Nat.le_refl _, ⟨by rw [← e1]; exact HV2.out⟩, HB2⟩
end Go.Proofs.Ythibphndihjcaaa.P
