/- impl.CellTable: what a call of it computes. Conditions: none. -/
import Derived.Test.YthibphndihjcaaaOCells
import Derived.Test.YthibphndihjcaaaWAll2
import Derived.Test.YthibphndihjcaaaP57
namespace Go.Proofs.Ythibphndihjcaaa.P
open Go.RowKit Go.Proofs.YthibphndihjcaaaW.PrintWords Go.Proofs.YthibphndihjcaaaW.PrintLast Go.Proofs.YthibphndihjcaaaW.PrintMore
set_option linter.unusedVariables false
set_option linter.unusedSimpArgs false

def impl_CellTable.f (k : Nat) (a0 : Int) (l1 : List Int) : Option (List (List Int)) := (impl_IsWiring.f k a0 l1).bind fun b => if b = true then ((impl_cellsOf.f k a0 l1).bind fun C => if C.length < 1000 ∧ ∀ y ∈ C, y.length < 1000000 then some (C.map (·.map (·.f0))) else none) else some []
theorem impl_CellTable.mono : ∀ a0 a1 k, LeO (impl_CellTable.f k a0 a1) (impl_CellTable.f (k + 1) a0 a1) := by
  intro a0 a1 k
  unfold impl_CellTable.f
  refine LeO.bind (impl_IsWiring.mono _ _ _) (fun b => LeO.ite ?_ (LeO.refl _))
  exact LeO.bind (impl_cellsOf.mono _ _ _) (fun c => LeO.refl _)
set_option maxHeartbeats 8000000 in
set_option maxRecDepth 100000 in
theorem impl_CellTable.calls (k : Nat) (a0 : Int) (A1 : Option Addr) (c1 : Nat) (l1 : List Int) (r : List (List Int)) (w : World) (hr1 : Kd.C (Kd.int .i64) w A1 l1.length l1) (hc1 : l1.length ≤ c1) (h : impl_CellTable.f k a0 l1 = some r) :
    Calls Try.prog 24 #[.int .i64 a0, .slice A1 l1.length c1] w fun e w' => ∃ v0_ : Value, e = .returned (v0_) ∧ Kd.S (Kd.slice 3 (Kd.int .i64)) 22 w' w.heap.size (fun _ => True) v0_ r ∧ Below w.heap.size w w' := by
  have HR1 := Aside0.mk hr1
  have HC1 := Aside0.mk hc1
  clear hr1 hc1
  have H := h
  clear h
  unfold impl_CellTable.f at H
  replace H := Option.bind_eq_some_iff.mp H
  obtain ⟨b, A30, H⟩ := H
  have A3 := Aside0.mk A30
  clear A30
  cases b with
  | false =>
    simp only [Bool.false_eq_true, if_false] at H
    obtain rfl := Option.some.inj H
    clear H
    go_enter Try.func24, Try.ntmps24
    go_wp2_with (first | ((with_reducible refine gate_callee (f := 52) rfl ?_); refine gL (some 13) rfl rfl Try.func52 (by kernel_rfl) rfl #[.int .i64 a0, .slice A1 l1.length c1] rfl ?_; (with_reducible refine (impl_IsWiring.calls k a0 _ _ l1 _ _ HR1.out HC1.out A3.out).mono ?_); rintro e w4 ⟨rfl, hb⟩; refine ⟨_, rfl, ?_⟩; have HB := Aside0.mk hb; clear hb))
    go_ret
    exact ⟨_, rfl, Kd.S_nil _ _ _ _ _, HB.out⟩
  | true =>
    simp only [if_true] at H
    replace H := Option.bind_eq_some_iff.mp H
    obtain ⟨C, A40, H⟩ := H
    have A4 := Aside0.mk A40
    clear A40
    by_cases hl : C.length < 1000 ∧ ∀ y ∈ C, y.length < 1000000
    case neg => rw [if_neg hl] at H; exact absurd H (by simp)
    rw [if_pos hl] at H
    have HE := Aside0.mk (Option.some.inj H)
    have HL := Aside0.mk hl
    clear H hl
    go_enter Try.func24, Try.ntmps24
    go_wp2_with (first | ((with_reducible refine gate_callee (f := 52) rfl ?_); refine gL (some 13) rfl rfl Try.func52 (by kernel_rfl) rfl #[.int .i64 a0, .slice A1 l1.length c1] rfl ?_; (with_reducible refine (impl_IsWiring.calls k a0 _ _ l1 _ _ HR1.out HC1.out A3.out).mono ?_); rintro e w4 ⟨rfl, hb⟩; refine ⟨_, rfl, ?_⟩; have HB := Aside0.mk hb; clear hb) | ((with_reducible refine gate_callee (f := 54) rfl ?_); refine gL (some 17) rfl rfl Try.func54 (by kernel_rfl) rfl #[.int .i64 a0, .slice A1 l1.length c1] rfl ?_; (with_reducible refine (impl_cellsOf.calls k a0 _ _ l1 C _ (Kd.C_below HR1.out HB.out) HC1.out A4.out).mono ?_); rintro e w6 ⟨v6, rfl, ho, hb⟩; refine ⟨_, rfl, ?_⟩; obtain ⟨AC, cC, eo⟩ := Kd.S_slice ho; subst eo; have HC := Aside0.mk (Kd.S_reads' ho).2.2; have HB6 := Aside0.mk (below_step HB.out hb); clear HB hb ho))
    obtain ⟨N, hN⟩ : ∃ z : Int, (C.length : Int) = z := ⟨_, rfl⟩
    rw [hN]
    have HN := Aside0.mk hN
    clear hN
    go_loopg [5, 19] C.length (fun gg v5 v19 w' => ∃ i : Nat, v19 = .int .i64 i ∧ i ≤ C.length ∧ C.length - i ≤ gg ∧ Aside0 (Kd.S (Kd.slice 3 (Kd.int .i64)) 22 w' w6.heap.size (fun _ => True) v5 ((C.take i).map (·.map (·.f0)))) ∧ Aside0 (Below w6.heap.size w6 w'))
    case atStart => exact ⟨0, rfl, Nat.zero_le _, Nat.le_refl _, ⟨Kd.S_nil _ _ _ _ _⟩, ⟨Below.refl _ _⟩⟩
    case round =>
      obtain ⟨i, rfl, hi, hgg, HO, HB⟩ := hrel
      obtain ⟨I, hI⟩ : ∃ z : Int, (i : Int) = z := ⟨_, rfl⟩
      rw [hI]
      have hNN := HN.out
      by_cases hiN : I < N
      case neg =>
        have hd : decide (I < N) = false := decide_eq_false hiN
        have HI := Aside0.mk (show i = C.length by omega)
        clear hiN hI hi hgg hNN
        go_wp2
        go_ret
        refine ⟨_, rfl, ?_, below_step HB6.out HB.out⟩
        have ho := HO.out
        rw [HI.out, List.take_length, HE.out] at ho
        exact Kd.S_lower ho HB6.out.size
      case pos =>
        have hd : decide (I < N) = true := decide_eq_true hiN
        have h0 : 0 ≤ I := by omega
        have h0t := eq_true h0
        have hNt := eq_true hiN
        have hiC : I < (C.length : Int) := by omega
        obtain ⟨ad, Ar, cr, eA, hx, hl, hCr⟩ := at_LCE HC.out I h0 hiC
        subst eA
        replace hx := (HB.out.cell (World.block_lt_of_cell? _ _ hx)).trans hx
        obtain ⟨row, hrow⟩ : ∃ z : List CE, C.getD I.toNat [] = z := ⟨_, rfl⟩
        rw [hrow] at hx hl hCr
        have HROW := Aside0.mk hrow
        have HCR := Aside0.mk hCr
        have HRL := Aside0.mk (show row.length < 1000000 by rw [← hrow]; exact getD_of (P := fun y : List CE => y.length < 1000000) HL.out.2 (by simp) _)
        have HI := Aside0.mk (And.intro hI (And.intro hi (And.intro hgg hiC)))
        obtain ⟨R, hR⟩ : ∃ z : Int, (row.length : Int) = z := ⟨_, rfl⟩
        have HRR := Aside0.mk hR
        have hCt := eq_true hiC
        clear hiN hI hi hgg hNN hrow hCr hl hiC h0
        go_wp2
        clear hx hR hCt h0t hNt hd
        go_loopg [8, 25] row.length (fun gg v8 v25 w' => ∃ j : Nat, v25 = .int .i64 j ∧ j ≤ row.length ∧ row.length - j ≤ gg ∧ Aside0 (Kd.S (Kd.slice 3 (Kd.int .i64)) 22 w' w6.heap.size (fun k => some k ≠ (v8 : Value).ownBlock) u5 ((C.take i).map (·.map (·.f0)))) ∧ Aside0 (Kd.R (Kd.int .i64) 3 w' w6.heap.size (fun _ => True) v8 ((row.take j).map (·.f0))) ∧ Aside0 (Below w6.heap.size w6 w'))
        case atStart => exact ⟨0, rfl, Nat.zero_le _, Nat.le_refl _, ⟨Kd.S_mono HO.out (fun _ _ => by simp [Value.ownBlock])⟩, ⟨Kd.R_nil _ _ _ _ _⟩, HB⟩
        case round =>
          clear HO HB
          obtain ⟨j, rfl, hj, hjg, HO, HV, HB⟩ := hrel
          obtain ⟨J, hJ⟩ : ∃ z : Int, (j : Int) = z := ⟨_, rfl⟩
          rw [hJ]
          have hRR := HRR.out
          by_cases hjR : J < R
          case neg =>
            have hdj : decide (J < R) = false := decide_eq_false hjR
            have HJ := Aside0.mk (show j = row.length by omega)
            clear hjR hJ hj hjg hRR
            obtain ⟨A8, c8, e8⟩ := Kd.R_slice HV.out
            subst e8
            obtain ⟨y, hy⟩ : ∃ z : List Int, (row.take j).map (·.f0) = z := ⟨_, rfl⟩
            rw [hy] at HV HO
            have HY := Aside0.mk hy
            rw [hy]
            clear hy
            go_wp2_with (first | ((with_reducible refine gate_builtin (b := .append) (xs := #[.tmp 35, .tmp 37]) rfl ?_); at_builtin; refine Kd.S_append (Kd.slice 3 (Kd.int .i64)) (w0 := w6) w6.heap.size rfl (.tmp 35) (.tmp 37) 34 22 (.slice none 0 0) 24 rfl Try.underlying34 info22 rfl (by decide) (by omega) u5 ((C.take i).map (·.map (·.f0))) y [.slice A8 y.length c8] (fun _ => True) (fun k_ => some k_ = (.slice A8 y.length c8 : Value).ownBlock) rfl rfl (Kd.M_row (Kd.R_tight rfl HV.out)) (fun k_ hk_ => ⟨trivial, fun he => (Kd.S_R HO.out).1 k_ he.symm hk_⟩) (fun _ _ => trivial) (Kd.S_mono HO.out (fun k_ hk => ⟨trivial, fun e_ => hk e_⟩)) HB.out HB.out.size ?aL ?_; (case aL => have := HI.out; have := HL.out.1; simp only [List.length_map, List.length_take]; omega); intro v38 w38 ho hb hg hat; have HO2 := Aside0.mk ho; have HB2 := Aside0.mk hb; clear ho hb hg hat))
            go_roundg (C.length - (i + 1))
            case measure => have := HI.out; omega
            case rel =>
              have hi := HI.out
              have hw : wrap64 (I + 1) = ((i + 1 : Nat) : Int) := by have := HL.out.1; unfold wrap64; omega
              have e1 : (C.take i).map (·.map (·.f0)) ++ [y] = (C.take (i + 1)).map (·.map (·.f0)) := by
                have hil : i < C.length := by omega
                rw [List.take_succ_eq_append_getElem hil, List.map_append, ← HY.out, HJ.out, List.take_length, ← HROW.out, show I.toNat = i by omega, List.getD_eq_getElem?_getD, List.getElem?_eq_getElem hil]
                rfl
              exact ⟨i + 1, by first | rfl | (rw [hw]; done) | exact congrArg (Value.int .i64) hw, by omega, Nat.le_refl _, ⟨by rw [← e1]; exact HO2.out⟩, HB2⟩
          case pos =>
            have hdj : decide (J < R) = true := decide_eq_true hjR
            have hj0 : 0 ≤ J := by omega
            have hjl : J < (row.length : Int) := by omega
            have j0t := eq_true hj0
            have j1t := eq_true hjl
            obtain ⟨ad2, e2, hx0, hx1, hx2, hx3, hx4⟩ := at_T58 HCR.out J hj0 hjl
            subst e2
            replace hx0 := (HB.out.cell (World.block_lt_of_cell? _ _ hx0)).trans hx0
            replace hx1 := (HB.out.cell (World.block_lt_of_cell? _ _ hx1)).trans hx1
            replace hx2 := (HB.out.cell (World.block_lt_of_cell? _ _ hx2)).trans hx2
            replace hx3 := (HB.out.cell (World.block_lt_of_cell? _ _ hx3)).trans hx3
            replace hx4 := (HB.out.cell (World.block_lt_of_cell? _ _ hx4)).trans hx4
            obtain ⟨cc, hcc⟩ : ∃ z : CE, rd_T58 row J = z := ⟨_, rfl⟩
            rw [hcc] at hx0 hx1 hx2 hx3 hx4
            have HCC := Aside0.mk hcc
            have HJ := Aside0.mk (And.intro hJ (And.intro hj (And.intro hjg hjl)))
            obtain ⟨xs, hxs⟩ : ∃ z : List Int, (row.take j).map (·.f0) = z := ⟨_, rfl⟩
            rw [hxs] at HV
            have HXS := Aside0.mk hxs
            clear hjR hJ hj hjg hRR hcc hjl hj0 hxs
            go_wp2_with (first
              | ((with_reducible refine gate_dst (N := 10) rfl ?_); refine bx 10 #[.int .i64 0, .int .i64 0, .int .i64 0, .int .i64 0, .int .i64 0] 58 ?_; intro gb hg w16 hbox hb; have n0_ := Aside0.mk (Kd.S_old HO.out hb); have n1_ := Aside0.mk (Kd.R_old HV.out hb); have n2_ := Aside0.mk (below_then HB.out HB.out.size hb); have BK := Aside0.mk hbox; have GE := Aside0.mk (show w6.heap.size ≤ gb by rw [hg]; exact HB.out.size); rw [← hg] at n0_ n1_; clear HO HV HB hbox hb hg; have HO := n0_; have HV := n1_; have HB := n2_; clear n0_ n1_ n2_)
              | ((with_reducible refine gate_store (t := 58) (p := 10) rfl ?_); refine st_blkL rfl rfl 58 (.tmp 10) (.tmp 28) rfl (ceC cc) rfl rfl BK.out rfl (show _ = some 5 from by kernel_rfl) rfl (ceC_one _) ?_; intro w17 hbk hg; have n0_ := Aside0.mk (Kd.S_grown HO.out hg (fun k hk he => by have := hk.2; have := Option.some.inj he; omega)); have n1_ := Aside0.mk (Kd.R_grown HV.out hg (fun k hk he => by have := hk.2; have := Option.some.inj he; omega)); have n2_ := Aside0.mk (HB.out.grown hg HB.out.size (fun k hk => by have := GE.out; injection hk with hk; omega)); clear HO HV HB BK hg; have HO := Aside0.mk (Kd.S_mono n0_.out (fun k hk => hk.1)); have HV := Aside0.mk (Kd.R_mono n1_.out (fun k hk => hk.1)); have HB := n2_; have BK := Aside0.mk hbk; clear n0_ n1_ n2_ hbk; have hb0 := bc BK 0 (v := .int .i64 cc.f0))
              | ((with_reducible refine gate_builtin (b := .append) (xs := #[.tmp 29, .tmp 32]) rfl ?_); at_builtin; refine Kd.R_append (Kd.int .i64) (w0 := w6) w6.heap.size rfl (.tmp 29) (.tmp 32) 22 3 (.int .i64 0) 8 rfl Try.underlying22 info3 rfl (by decide) (by omega) u8 xs cc.f0 [.int .i64 cc.f0] (fun _ => True) (fun _ => False) rfl rfl rfl (fun _ hk => hk.elim) (fun _ _ => trivial) HV.out HB.out HB.out.size ?aL ?_; (case aL => have := HRL.out; have := HXS.out; rw [← HXS.out, List.length_map, List.length_take]; omega); intro v33 w18 ho hb hg hat; have n0_ := Aside0.mk (Kd.S_after (ok := fun _ => True) (Kd.S_mono HO.out (fun _ hk => ⟨trivial, hk⟩)) hg hat); have HV2 := Aside0.mk ho; have HB2 := Aside0.mk hb; clear HO HV HB ho hb hg hat; have HO := n0_; clear n0_))
            go_roundg (row.length - (j + 1))
            case measure => have := HJ.out; omega
            case rel =>
              have hj := HJ.out
              have hw : wrap64 (J + 1) = ((j + 1 : Nat) : Int) := by have := HRL.out; unfold wrap64; omega
              have e1 : xs ++ [cc.f0] = (row.take (j + 1)).map (·.f0) := by
                have hjl : j < row.length := by omega
                rw [List.take_succ_eq_append_getElem hjl, List.map_append, ← HXS.out, ← HCC.out]
                congr 1
                show _ = [(row[j]).f0]
                rw [show rd_T58 row J = row.getD j ceZ by unfold rd_T58; rw [show J.toNat = j by omega], List.getD_eq_getElem?_getD, List.getElem?_eq_getElem hjl]
                rfl
              exact ⟨j + 1, by first | rfl | (rw [hw]; done) | exact congrArg (Value.int .i64) hw, by omega, Nat.le_refl _, ⟨Kd.S_mono HO.out (fun _ hk => hk.2)⟩, ⟨by rw [← e1]; exact HV2.out⟩, HB2⟩
end Go.Proofs.Ythibphndihjcaaa.P
