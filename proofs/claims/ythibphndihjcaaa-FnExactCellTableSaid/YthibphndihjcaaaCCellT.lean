/- Plain laws of CellTable: the reference's and the program's answer is cTabS. Conditions: the list has at most 2^20 places. -/
import Derived.Test.YthibphndihjcaaaCBase
import Derived.Test.YthibphndihjcaaaCSide
import Derived.Test.YthibphndihjcaaaOCellT
import Derived.Test.YthibphndihjcaaaP23
namespace Go.Proofs.Ythibphndihjcaaa.P
open Go.RowKit Go.Proofs.YthibphndihjcaaaW.PrintWords Go.Proofs.YthibphndihjcaaaW.PrintLast
set_option linter.unusedVariables false
set_option linter.unusedSimpArgs false

def cCT (n : Int) (w : List Int) : List (List Int) := if cIsW n w = true then cTabS n.toNat w else []
theorem cI_CT (n : Int) (w : List Int) (hl : w.length ≤ 1048576) : Ev (fun k => impl_CellTable.f k n w) (cCT n w) := by
  unfold impl_CellTable.f cCT
  refine Ev.bind (c_isW n w (by omega)) ?_
  by_cases h : cIsW n w = true
  · simp only [h, if_true]
    refine Ev.bind (c_cellsOf h) ?_
    have hb := cRows_bd h
    refine ⟨0, fun k _ => ?_⟩
    rw [← cTabS_all h]
    exact if_pos ⟨by omega, fun y hy => by have := hb.2 y hy; omega⟩
  · simp only [if_neg h]; exact Ev.now _
section
variable {n : Int} {w : List Int} {R : List (List Int)} {L : Nat} {out : List (List Int)}
theorem cS_CT2 (h : cIsW n w = true) (hL : L ≤ n.toNat) (ho : out.length ≤ 100) (hR : Ev (fun k => spec_CellTable.l0 k n w (out ++ [cRowS L w (cB n.toNat L)]) ((L + 1 : Nat) : Int)) R) : ∀ (d ix : Nat), ix + d = cCnt L w + 1 →
    Ev (fun k => spec_CellTable.l2 k n w out (L : Int) ((cRowS L w (cB n.toNat L)).take ix) (cCnt L w : Int) (ix : Int)) R := by
  obtain ⟨h3, h6, -, -⟩ := c_isW_spec h
  have hwl := c_isW_len h
  have hcl := cCnt_le L w
  have hlen := cRowS_length L w (cB n.toNat L)
  intro d
  induction d with
  | zero =>
    intro ix hi
    refine Ev.step (f := fun k => spec_CellTable.l0 k n w (out ++ [cRowS L w (cB n.toNat L)]) ((L + 1 : Nat) : Int)) (fun k => ?_) hR
    simp only [spec_CellTable.l2]
    rw [if_neg (by omega), if_pos (by omega), c_w1 L (by omega), List.take_of_length_le (by omega)]
  | succ d ih =>
    intro ix hi
    refine Ev.step (f := fun k => (spec_l16Sides.f k n w (L : Int) (ix : Int)).bind fun t => spec_CellTable.l2 k n w out (L : Int) ((cRowS L w (cB n.toNat L)).take ix ++ [t]) (cCnt L w : Int) ((ix + 1 : Nat) : Int)) (fun k => ?_) ?_
    · simp only [spec_CellTable.l2]
      rw [if_pos (by omega), c_w1 ix (by omega)]
      congr 1
      funext t
      rw [if_pos (by rw [List.length_take]; omega)]
    · refine Ev.bind (c_sides h L ix hL (by omega)) ?_
      have h4 := ih (ix + 1) (by omega)
      rw [List.take_succ_eq_append_getElem (by omega)] at h4
      rw [List.getD_eq_getElem?_getD, List.getElem?_eq_getElem (by omega), Option.getD_some]
      exact h4
theorem cS_CT1 (h : cIsW n w = true) (hL : L ≤ 100) (hR : Ev (fun k => spec_CellTable.l2 k n w out (L : Int) [] (cCnt L w : Int) 0) R) : ∀ (d i a : Nat), i + d = w.length → a ≤ i → a + cCnt L (w.drop i) = cCnt L w →
    Ev (fun k => spec_CellTable.l1 k n w out (L : Int) [] (a : Int) (i : Int)) R := by
  have hwl := c_isW_len h
  have hpl := c_isW_places h
  intro d
  induction d with
  | zero =>
    intro i a hi ha hc
    rw [List.drop_eq_nil_of_le (by omega)] at hc
    simp only [cCnt] at hc
    refine Ev.step (f := fun k => spec_CellTable.l2 k n w out (L : Int) [] (cCnt L w : Int) 0) (fun k => ?_) hR
    simp only [spec_CellTable.l1]
    rw [if_neg (by omega), show a = cCnt L w by omega]
  | succ d ih =>
    intro i a hi ha hc
    have hil : i < w.length := by omega
    have hpi := hpl _ (cc_getD_mem hil)
    rw [c_drop w i hil] at hc
    obtain ⟨q, hq⟩ : ∃ q : Nat, w.getD i 0 = (q : Int) := ⟨(w.getD i 0).toNat, by omega⟩
    simp only [cCnt, hq, Int.toNat_natCast] at hc
    have E1 := Aside0.mk (show wrap64 ((L : Int) - 1) = (L : Int) - 1 by unfold wrap64; omega)
    by_cases c1 : q + 1 = L
    · rw [if_pos c1] at hc
      refine Ev.step (f := fun k => spec_CellTable.l1 k n w out (L : Int) [] ((a + 1 : Nat) : Int) ((i + 1 : Nat) : Int)) (fun k => ?_) (ih (i + 1) (a + 1) (by omega) (by omega) (by omega))
      simp only [spec_CellTable.l1]
      rw [if_pos (by omega), if_pos (by omega), c_rd, hq, E1.out, c_l1Bit, Option.bind_some, show (((q : Nat) : Int) == (L : Int) - 1) = true from beq_iff_eq.2 (by omega), if_pos rfl, c_w1 a (by omega), c_w1 i (by omega)]
    · rw [if_neg c1] at hc
      refine Ev.step (f := fun k => spec_CellTable.l1 k n w out (L : Int) [] (a : Int) ((i + 1 : Nat) : Int)) (fun k => ?_) (ih (i + 1) a (by omega) (by omega) (by omega))
      simp only [spec_CellTable.l1]
      rw [if_pos (by omega), if_pos (by omega), c_rd, hq, E1.out, c_l1Bit, Option.bind_some, show (((q : Nat) : Int) == (L : Int) - 1) = false from beq_eq_false_iff_ne.2 (by omega), if_neg (by decide), Int.add_zero, c_wid (a : Int) (by omega) (by omega), c_w1 i (by omega)]
end
theorem cS_CT0 {n : Int} {w : List Int} (h : cIsW n w = true) : ∀ (d L : Nat), L + d = n.toNat + 1 → Ev (fun k => spec_CellTable.l0 k n w ((cTabS n.toNat w).take L) (L : Int)) (cTabS n.toNat w) := by
  obtain ⟨h3, h6, -, -⟩ := c_isW_spec h
  have hlen : (cTabS n.toNat w).length = n.toNat + 1 := by unfold cTabS; rw [List.length_map, List.length_range]
  intro d
  induction d with
  | zero =>
    intro L hL
    refine Ev.step (f := fun _ => some (cTabS n.toNat w)) (fun k => ?_) (Ev.now _)
    simp only [spec_CellTable.l0]
    rw [if_neg (by omega), List.take_of_length_le (by omega)]
  | succ d ih =>
    intro L hL
    refine Ev.step (f := fun k => spec_CellTable.l1 k n w ((cTabS n.toNat w).take L) (L : Int) [] 0 0) (fun k => ?_) ?_
    · simp only [spec_CellTable.l0]
      rw [if_pos (by omega)]
    · have h4 := ih (L + 1) (by omega)
      rw [List.take_succ_eq_append_getElem (by omega), show (cTabS n.toNat w)[L]'(by omega) = cRowS L w (cB n.toNat L) by unfold cTabS; rw [List.getElem_map, List.getElem_range]] at h4
      have h5 := cS_CT2 h (by omega) (by rw [List.length_take]; omega) h4 (cCnt L w + 1) 0 (by omega)
      rw [List.take_zero] at h5
      have h6 := cS_CT1 h (by omega) h5 w.length 0 0 (by omega) (Nat.le_refl _) (by rw [List.drop_zero]; omega)
      exact h6
theorem cS_CT (n : Int) (w : List Int) (hl : w.length ≤ 1048576) : Ev (fun k => spec_CellTable.f k n w) (cCT n w) := by
  unfold spec_CellTable.f cCT
  simp only [Option.bind_some]
  refine Ev.bind (c_isWiring n w (by omega)) ?_
  by_cases h : cIsW n w = true
  · simp only [h, if_true]
    exact cS_CT0 h (n.toNat + 1) 0 (by omega)
  · simp only [if_neg h]; exact Ev.now _
theorem cCT_rows (n : Int) (w : List Int) (hl : w.length ≤ 1048576) : (cCT n w).length ≤ 1048576 ∧ ∀ r ∈ cCT n w, r.length ≤ 1024 := by
  unfold cCT
  split
  · rename_i h
    obtain ⟨h3, h6, -, -⟩ := c_isW_spec h
    have hwl := c_isW_len h
    refine ⟨by unfold cTabS; rw [List.length_map, List.length_range]; omega, fun r hr => ?_⟩
    unfold cTabS at hr
    obtain ⟨L, hL, rfl⟩ := List.mem_map.1 hr
    have := cCnt_le L w
    rw [cRowS_length]; omega
  · simp

end Go.Proofs.Ythibphndihjcaaa.P
