/- impl.ZoneSum: what a call of it computes. Conditions: none. -/
import Derived.Test.YthibphndihjcaaaOCells
import Derived.Test.YthibphndihjcaaaWAll2
import Derived.Test.YthibphndihjcaaaP57
import Derived.Test.YthibphndihjcaaaP49
namespace Go.Proofs.Ythibphndihjcaaa.P
open Go.RowKit Go.Proofs.YthibphndihjcaaaW.PrintWords Go.Proofs.YthibphndihjcaaaW.PrintLast Go.Proofs.YthibphndihjcaaaW.PrintMore
set_option linter.unusedVariables false
set_option linter.unusedSimpArgs false

/-- Is a wire along a cell? -/
def ceOn (c : CE) (i : Int) : Bool := Go.bits .and .i64 (shr .i64 c.f1 i) 1 == 1
def zoAdd (i : Int) (a : Int) (c : CE) : Int := if ceOn c i = true then wrap64 (a + c.f0) else a
def zoAll (i : Int) (C : List (List CE)) : Int := C.foldl (fun a row => row.foldl (zoAdd i) a) 0
def impl_ZoneSum.f (k : Nat) (a0 : Int) (l1 : List Int) (a2 : Int) : Option Int := (impl_IsWiring.f k a0 l1).bind fun b => if b = true then ((impl_isElement.f a0 a2).bind fun e => if e = true then ((impl_cellsOf.f k a0 l1).bind fun C => if C.length < 1000 ∧ ∀ y ∈ C, y.length < 1000000 then some (zoAll a2 C) else none) else some (-1)) else some (-1)
theorem impl_ZoneSum.mono : ∀ a0 a1 a2 k, LeO (impl_ZoneSum.f k a0 a1 a2) (impl_ZoneSum.f (k + 1) a0 a1 a2) := by
  intro a0 a1 a2 k
  unfold impl_ZoneSum.f
  refine LeO.bind (impl_IsWiring.mono _ _ _) (fun b => LeO.ite ?_ (LeO.refl _))
  refine LeO.bind (LeO.refl _) (fun e => LeO.ite ?_ (LeO.refl _))
  exact LeO.bind (impl_cellsOf.mono _ _ _) (fun c => LeO.refl _)
set_option maxHeartbeats 8000000 in
set_option maxRecDepth 100000 in
theorem impl_ZoneSum.calls (k : Nat) (a0 : Int) (A1 : Option Addr) (c1 : Nat) (l1 : List Int) (a2 : Int) (r : Int) (w : World) (hr1 : Kd.C (Kd.int .i64) w A1 l1.length l1) (hc1 : l1.length ≤ c1) (h : impl_ZoneSum.f k a0 l1 a2 = some r) :
    Calls Try.prog 16 #[.int .i64 a0, .slice A1 l1.length c1, .int .i64 a2] w fun e w' => e = .returned (.int .i64 r) ∧ Below w.heap.size w w' := by
  have HR1 := Aside0.mk hr1
  have HC1 := Aside0.mk hc1
  clear hr1 hc1
  have H := h
  clear h
  unfold impl_ZoneSum.f at H
  replace H := Option.bind_eq_some_iff.mp H
  obtain ⟨b, A30, H⟩ := H
  have A3 := Aside0.mk A30
  clear A30
  cases b with
  | false =>
    simp only [Bool.false_eq_true, if_false] at H
    obtain rfl := Option.some.inj H
    clear H
    go_enter Try.func16, Try.ntmps16
    go_wp2_with (first | ((with_reducible refine gate_callee (f := 52) rfl ?_); refine gL (some 14) rfl rfl Try.func52 (by kernel_rfl) rfl #[.int .i64 a0, .slice A1 l1.length c1] rfl ?_; (with_reducible refine (impl_IsWiring.calls k a0 _ _ l1 _ _ HR1.out HC1.out A3.out).mono ?_); rintro e w4 ⟨rfl, hb⟩; refine ⟨_, rfl, ?_⟩; have HB := Aside0.mk hb; clear hb))
    go_ret
    exact ⟨rfl, by repeat (first | exact HB.out | apply pw_below_drewN | apply below_drew1)⟩
  | true =>
    simp only [if_true] at H
    replace H := Option.bind_eq_some_iff.mp H
    obtain ⟨b2, A40, H⟩ := H
    have A4 := Aside0.mk A40
    cases b2 with
    | false =>
      clear A40
      simp only [Bool.false_eq_true, if_false] at H
      obtain rfl := Option.some.inj H
      clear H
      go_enter Try.func16, Try.ntmps16
      go_wp2_with (first | ((with_reducible refine gate_callee (f := 52) rfl ?_); refine gL (some 14) rfl rfl Try.func52 (by kernel_rfl) rfl #[.int .i64 a0, .slice A1 l1.length c1] rfl ?_; (with_reducible refine (impl_IsWiring.calls k a0 _ _ l1 _ _ HR1.out HC1.out A3.out).mono ?_); rintro e w4 ⟨rfl, hb⟩; refine ⟨_, rfl, ?_⟩; have HB := Aside0.mk hb; clear hb) | (go_at_call 53; (with_reducible refine (impl_isElement.calls a0 a2 _ _ A4.out).mono ?_); rintro e w' ⟨rfl, ⟨nd, rfl⟩⟩; have n0_ := Aside0.mk (pw_below_drewN HB.out nd); clear HB; have HB := n0_; clear n0_))
      go_ret
      exact ⟨rfl, by repeat (first | exact HB.out | apply pw_below_drewN | apply below_drew1)⟩
    | true =>
      simp only [if_true] at H
      have ha2 : 0 ≤ a2 := by
        unfold impl_isElement.f at A40
        by_cases h : a2 ≥ 0
        · exact h
        · rw [if_neg h] at A40; exact absurd A40 (by simp)
      clear A40
      replace H := Option.bind_eq_some_iff.mp H
      obtain ⟨C, A50, H⟩ := H
      have A5 := Aside0.mk A50
      clear A50
      by_cases hl : C.length < 1000 ∧ ∀ y ∈ C, y.length < 1000000
      case neg => rw [if_neg hl] at H; exact absurd H (by simp)
      rw [if_pos hl] at H
      have HE := Aside0.mk (Option.some.inj H)
      have HL := Aside0.mk hl
      clear H hl
      have ha2t := eq_true ha2
      clear ha2
      go_enter Try.func16, Try.ntmps16
      go_wp2_with (first | ((with_reducible refine gate_callee (f := 52) rfl ?_); refine gL (some 14) rfl rfl Try.func52 (by kernel_rfl) rfl #[.int .i64 a0, .slice A1 l1.length c1] rfl ?_; (with_reducible refine (impl_IsWiring.calls k a0 _ _ l1 _ _ HR1.out HC1.out A3.out).mono ?_); rintro e w4 ⟨rfl, hb⟩; refine ⟨_, rfl, ?_⟩; have HB := Aside0.mk hb; clear hb) | (go_at_call 53; (with_reducible refine (impl_isElement.calls a0 a2 _ _ A4.out).mono ?_); rintro e w' ⟨rfl, ⟨nd, rfl⟩⟩; have n0_ := Aside0.mk (pw_below_drewN HB.out nd); clear HB; have HB := n0_; clear n0_) | ((with_reducible refine gate_callee (f := 54) rfl ?_); refine gL (some 24) rfl rfl Try.func54 (by kernel_rfl) rfl #[.int .i64 a0, .slice A1 l1.length c1] rfl ?_; (with_reducible refine (impl_cellsOf.calls k a0 _ _ l1 C _ (Kd.C_below HR1.out HB.out) HC1.out A5.out).mono ?_); rintro e w6 ⟨v6, rfl, ho, hb⟩; refine ⟨_, rfl, ?_⟩; obtain ⟨AC, cC, eo⟩ := Kd.S_slice ho; subst eo; have HC := Aside0.mk (Kd.S_reads' ho).2.2; have HB6 := Aside0.mk (below_step HB.out hb); clear HB hb ho))
      obtain ⟨N, hN⟩ : ∃ z : Int, (C.length : Int) = z := ⟨_, rfl⟩
      rw [hN]
      have HN := Aside0.mk hN
      clear hN
      go_loopg [7, 26] C.length (fun gg v7 v26 w' => ∃ (i : Nat) (s : Int), v26 = .int .i64 i ∧ v7 = .int .i64 s ∧ i ≤ C.length ∧ C.length - i ≤ gg ∧ Aside0 ((C.drop i).foldl (fun a row => row.foldl (zoAdd a2) a) s = r) ∧ Aside0 (Below w6.heap.size w6 w'))
      case atStart => exact ⟨0, 0, rfl, rfl, Nat.zero_le _, Nat.le_refl _, HE, ⟨Below.refl _ _⟩⟩
      case round =>
        obtain ⟨i, s, rfl, rfl, hi, hgg, HS, HB⟩ := hrel
        obtain ⟨I, hI⟩ : ∃ z : Int, (i : Int) = z := ⟨_, rfl⟩
        rw [hI]
        have hNN := HN.out
        by_cases hiN : I < N
        case neg =>
          have hd : decide (I < N) = false := decide_eq_false hiN
          have HI := Aside0.mk (show i = C.length by omega)
          clear hiN hI hi hgg hNN
          go_wp2
          go_ret
          refine ⟨?_, below_step HB6.out HB.out⟩
          have ho := HS.out
          rw [HI.out, List.drop_length] at ho
          rw [← ho]; rfl
        case pos =>
          have hd : decide (I < N) = true := decide_eq_true hiN
          have h0 : 0 ≤ I := by omega
          have h0t := eq_true h0
          have hNt := eq_true hiN
          have hiC : I < (C.length : Int) := by omega
          obtain ⟨ad, Ar, cr, eA, hx, hl, hCr⟩ := at_LCE HC.out I h0 hiC
          subst eA
          replace hx := (HB.out.cell (World.block_lt_of_cell? _ _ hx)).trans hx
          obtain ⟨row, hrow⟩ : ∃ z : List CE, C.getD I.toNat [] = z := ⟨_, rfl⟩
          rw [hrow] at hx hl hCr
          have HCR := Aside0.mk hCr
          have HRL := Aside0.mk (show row.length < 1000000 by rw [← hrow]; exact getD_of (P := fun y : List CE => y.length < 1000000) HL.out.2 (by simp) _)
          have hS2 : (C.drop (i + 1)).foldl (fun a row => row.foldl (zoAdd a2) a) (row.foldl (zoAdd a2) s) = r := by
            have h_ := HS.out
            have hil : i < C.length := by omega
            rw [List.drop_eq_getElem_cons hil, List.foldl_cons] at h_
            rw [← hrow, show I.toNat = i by omega, List.getD_eq_getElem?_getD, List.getElem?_eq_getElem hil]
            exact h_
          have HS2 := Aside0.mk hS2
          have HI := Aside0.mk (And.intro hI (And.intro hi (And.intro hgg hiC)))
          obtain ⟨R, hR⟩ : ∃ z : Int, (row.length : Int) = z := ⟨_, rfl⟩
          have HRR := Aside0.mk hR
          have hCt := eq_true hiC
          clear hiN hI hi hgg hNN hrow hCr hl hiC h0 hS2 HS
          go_wp2
          clear hx hR hCt h0t hNt hd
          go_loopg [7, 32] row.length (fun gg v7 v32 w' => ∃ (j : Nat) (z : Int), v32 = .int .i64 j ∧ v7 = .int .i64 z ∧ j ≤ row.length ∧ row.length - j ≤ gg ∧ Aside0 ((row.drop j).foldl (zoAdd a2) z = row.foldl (zoAdd a2) s) ∧ Aside0 (Below w6.heap.size w6 w'))
          case atStart => exact ⟨0, s, rfl, rfl, Nat.zero_le _, Nat.le_refl _, ⟨rfl⟩, HB⟩
          case round =>
            clear HB
            obtain ⟨j, z, rfl, rfl, hj, hjg, HZ, HB⟩ := hrel
            obtain ⟨J, hJ⟩ : ∃ z : Int, (j : Int) = z := ⟨_, rfl⟩
            rw [hJ]
            have hRR := HRR.out
            by_cases hjR : J < R
            case neg =>
              have hdj : decide (J < R) = false := decide_eq_false hjR
              have HJ := Aside0.mk (show j = row.length by omega)
              clear hjR hJ hj hjg hRR
              go_wp2
              go_roundg (C.length - (i + 1))
              case measure => have := HI.out; omega
              case rel =>
                have hi := HI.out
                have hw : wrap64 (I + 1) = ((i + 1 : Nat) : Int) := by have := HL.out.1; unfold wrap64; omega
                have e1 : z = row.foldl (zoAdd a2) s := by have h_ := HZ.out; rw [HJ.out, List.drop_length] at h_; exact h_
                exact ⟨i + 1, z, by first | rfl | (rw [hw]; done) | exact congrArg (Value.int .i64) hw, rfl, by omega, Nat.le_refl _, ⟨by rw [e1]; exact HS2.out⟩, HB⟩
            case pos =>
              have hdj : decide (J < R) = true := decide_eq_true hjR
              have hj0 : 0 ≤ J := by omega
              have hjl : J < (row.length : Int) := by omega
              have j0t := eq_true hj0
              have j1t := eq_true hjl
              obtain ⟨ad2, e2, hx0, hx1, hx2, hx3, hx4⟩ := at_T58 HCR.out J hj0 hjl
              subst e2
              replace hx0 := (HB.out.cell (World.block_lt_of_cell? _ _ hx0)).trans hx0
              replace hx1 := (HB.out.cell (World.block_lt_of_cell? _ _ hx1)).trans hx1
              replace hx2 := (HB.out.cell (World.block_lt_of_cell? _ _ hx2)).trans hx2
              replace hx3 := (HB.out.cell (World.block_lt_of_cell? _ _ hx3)).trans hx3
              replace hx4 := (HB.out.cell (World.block_lt_of_cell? _ _ hx4)).trans hx4
              obtain ⟨cc, hcc⟩ : ∃ z : CE, rd_T58 row J = z := ⟨_, rfl⟩
              rw [hcc] at hx0 hx1 hx2 hx3 hx4
              have hz2 : (row.drop (j + 1)).foldl (zoAdd a2) (zoAdd a2 z cc) = row.foldl (zoAdd a2) s := by
                have h_ := HZ.out
                have hil : j < row.length := by omega
                rw [List.drop_eq_getElem_cons hil, List.foldl_cons] at h_
                rw [← h_, ← hcc]
                unfold rd_T58
                rw [show J.toNat = j by omega, List.getD_eq_getElem?_getD, List.getElem?_eq_getElem hil]
                rfl
              have HZ2 := Aside0.mk hz2
              have HJ := Aside0.mk (And.intro hJ (And.intro hj (And.intro hjg hjl)))
              obtain ⟨sh, hsh⟩ : ∃ z : Int, shr .i64 cc.f1 a2 = z := ⟨_, rfl⟩
              have hsh_ : (cc.f1 / 2 ^ min a2.toNat 64) = sh := hsh
              obtain ⟨bt, hbt⟩ : ∃ z : Bool, (Go.bits .and .i64 sh 1 == 1) = z := ⟨_, rfl⟩
              have HBT := Aside0.mk (show ceOn cc a2 = bt by unfold ceOn; rw [hsh]; exact hbt)
              clear hjR hJ hj hjg hRR hcc hjl hj0 hz2 HZ hsh
              cases bt with
              | false =>
                go_wp2_with (first | ((with_reducible refine gate_dst (N := 11) rfl ?_); refine bx 11 #[.int .i64 0, .int .i64 0, .int .i64 0, .int .i64 0, .int .i64 0] 58 ?_; intro gb hg w16 hbox hb; have n2_ := Aside0.mk (below_then HB.out HB.out.size hb); have BK := Aside0.mk hbox; have GE := Aside0.mk (show w6.heap.size ≤ gb by rw [hg]; exact HB.out.size); clear HB hbox hb hg; have HB := n2_; clear n2_) | ((with_reducible refine gate_store (t := 58) (p := 11) rfl ?_); refine st_blkL rfl rfl 58 (.tmp 11) (.tmp 35) rfl (ceC cc) rfl rfl BK.out rfl (show _ = some 5 from by kernel_rfl) rfl (ceC_one _) ?_; intro w17 hbk hg; have n2_ := Aside0.mk (HB.out.grown hg HB.out.size (fun k hk => by have := GE.out; injection hk with hk; omega)); clear HB BK hg; have HB := n2_; have BK := Aside0.mk hbk; clear n2_ hbk; have hb0 := bc BK 0 (v := .int .i64 cc.f0); have hb1 := bc BK 1 (v := .int .i64 cc.f1)))
                go_roundg (row.length - (j + 1))
                case measure => have := HJ.out; omega
                case rel =>
                  have hj := HJ.out
                  have hw : wrap64 (J + 1) = ((j + 1 : Nat) : Int) := by have := HRL.out; unfold wrap64; omega
                  exact ⟨j + 1, z, by first | rfl | (rw [hw]; done) | exact congrArg (Value.int .i64) hw, rfl, by omega, Nat.le_refl _, ⟨by have h_ := HZ2.out; unfold zoAdd at h_; rw [HBT.out] at h_; exact h_⟩, HB⟩
              | true =>
                go_wp2_with (first | ((with_reducible refine gate_dst (N := 11) rfl ?_); refine bx 11 #[.int .i64 0, .int .i64 0, .int .i64 0, .int .i64 0, .int .i64 0] 58 ?_; intro gb hg w16 hbox hb; have n2_ := Aside0.mk (below_then HB.out HB.out.size hb); have BK := Aside0.mk hbox; have GE := Aside0.mk (show w6.heap.size ≤ gb by rw [hg]; exact HB.out.size); clear HB hbox hb hg; have HB := n2_; clear n2_) | ((with_reducible refine gate_store (t := 58) (p := 11) rfl ?_); refine st_blkL rfl rfl 58 (.tmp 11) (.tmp 35) rfl (ceC cc) rfl rfl BK.out rfl (show _ = some 5 from by kernel_rfl) rfl (ceC_one _) ?_; intro w17 hbk hg; have n2_ := Aside0.mk (HB.out.grown hg HB.out.size (fun k hk => by have := GE.out; injection hk with hk; omega)); clear HB BK hg; have HB := n2_; have BK := Aside0.mk hbk; clear n2_ hbk; have hb0 := bc BK 0 (v := .int .i64 cc.f0); have hb1 := bc BK 1 (v := .int .i64 cc.f1)))
                go_roundg (row.length - (j + 1))
                case measure => have := HJ.out; omega
                case rel =>
                  have hj := HJ.out
                  have hw : wrap64 (J + 1) = ((j + 1 : Nat) : Int) := by have := HRL.out; unfold wrap64; omega
                  exact ⟨j + 1, wrap64 (z + cc.f0), by first | rfl | (rw [hw]; done) | exact congrArg (Value.int .i64) hw, rfl, by omega, Nat.le_refl _, ⟨by have h_ := HZ2.out; unfold zoAdd at h_; rw [HBT.out] at h_; exact h_⟩, HB⟩
end Go.Proofs.Ythibphndihjcaaa.P
