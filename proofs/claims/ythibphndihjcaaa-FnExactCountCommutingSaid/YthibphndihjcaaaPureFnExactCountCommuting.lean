/- For every n and every list of at most 2^20 places the program's CountCommuting returns what the reference's returns and leaves its list alone; longer lists are passed by the law itself. Conditions: none. -/
import Derived.Test.YthibphndihjcaaaCBase
import Derived.Test.YthibphndihjcaaaCCount
import Derived.Test.YthibphndihjcaaaCSow
import Derived.Test.YthibphndihjcaaaCMark
import Derived.Test.YthibphndihjcaaaP42
namespace Go.Proofs.Ythibphndihjcaaa.P
open Go.RowKit Go.Proofs.YthibphndihjcaaaW.PrintWords Go.Proofs.YthibphndihjcaaaW.PrintLast
set_option linter.unusedVariables false
set_option linter.unusedSimpArgs false
theorem k_start_at (m i : Nat) (hi : i < m) : (cStart m).getD i 0 = (i : Int) := by
  unfold cStart
  rw [List.getD_eq_getElem?_getD, List.getElem?_map, List.getElem?_range hi]; rfl
theorem c_count (n : Int) (w : List Int) (hl : w.length ≤ 1048576) : ∃ r, Ev (fun k => spec_CountCommuting.f k n w) r ∧ Ev (fun k => impl_CountCommuting.f k n w) r := by
  have hS := cS_Sow n w hl
  have hI := cI_Sow n w hl
  unfold spec_CountCommuting.f impl_CountCommuting.f
  by_cases h : cIsW n w = true
  · have he : cSow n w = (n, cTx n.toNat (cSf (cL n.toNat w)), true) := by unfold cSow; rw [if_pos h]
    rw [he] at hS hI
    obtain ⟨h3, h6, _, _⟩ := c_isW_spec h
    obtain ⟨m, rfl⟩ : ∃ m : Nat, n = (m : Int) := ⟨n.toNat, by omega⟩
    rw [Int.toNat_natCast] at hS hI
    have hsz : (cTx m (cSf (cL m w))).size = (cTrips m).length := cTx_size _ _
    generalize cTx m (cSf (cL m w)) = s at hS hI hsz
    have h3' : 3 ≤ m := by omega
    have h6' : m ≤ 6 := by omega
    obtain ⟨e1, e2⟩ := g_nn m h6'
    have hst := c_start (m : Int) (by omega) (by omega)
    have hup := c_upTo (m : Int) (by omega) (by omega)
    rw [Int.toNat_natCast] at hst hup
    have hrel := g_rel0 m
    obtain ⟨c, M', i1, i2, _, _⟩ := k_all m h3' h6' s hsz 15 (fun _ _ => false) (List.replicate (m * m) false) (List.replicate 36 false) (cStart m) [] (Nat.le_add_left _ _) (fun x y z _ _ _ => ⟨fun _ hh => absurd hh Bool.false_ne_true, fun _ hh => absurd hh Bool.false_ne_true⟩) ⟨List.length_replicate, fun x y _ _ => by rw [Bool.and_false, List.getD_eq_getElem?_getD, List.getElem?_replicate]; split <;> rfl⟩ List.length_replicate hrel.2.2.2 (g_start m)
      (fun i j hi hj he => by rw [k_start_at m i hi, k_start_at m j hj] at he; exact Int.ofNat.inj he)
      (fun i j a b hij hj ha hb => by
        rw [k_start_at m i (by omega)] at ha
        rw [k_start_at m j hj] at hb
        have e1 : i = a := Int.ofNat.inj ha
        have e2 : j = b := Int.ofNat.inj hb
        exact ⟨fun _ => rfl, fun hh => by omega⟩)
      (fun ws v hv => by simp [kmLook] at hv) (by decide +kernel)
    refine ⟨c, Ev.bind hS ?_, Ev.bind hI ?_⟩
    · simp only [if_true]
      rw [e1]
      refine Ev.congr (fun k => if_pos (Int.natCast_nonneg _)) ?_
      simp only [Int.toNat_natCast]
      refine Ev.congr (fun k => if_pos e2) ?_
      exact Ev.bind hst (Ev.bind i2 (Ev.now _))
    · simp only [if_true]
      refine Ev.bind (c_tableOf m h3' (by omega) s hsz) ?_
      refine Ev.bind hup ?_
      have hlen : (cTab m s).length = 344 := by unfold cTab; rw [c_fold_len, c_chi0_len]
      have hcond : cmCond (m : Int) (cTab m s) (cStart m) := by
        refine ⟨by rw [hlen]; exact Nat.le_refl _, by rw [Int.toNat_natCast], by rw [Int.toNat_natCast]; exact c_tab_n m h3' (by omega) s, by rw [Int.toNat_natCast]; exact h3', by rw [Int.toNat_natCast]; exact h6', by rw [Int.toNat_natCast]; exact cStart_length m, fun x hx => ?_⟩
        unfold cStart at hx
        obtain ⟨i, hi, rfl⟩ := List.mem_map.mp hx
        have := List.mem_range.mp hi
        omega
      refine Ev.congr (fun k => if_pos hcond) ?_
      rw [Int.toNat_natCast]
      exact Ev.bind i1 (Ev.now _)
  · have he : (cSow n w).2.2 = false := by unfold cSow; rw [if_neg h]
    generalize cSow n w = q at hS hI he
    obtain ⟨r1, r2, r3⟩ := q
    simp only at he
    subst he
    exact ⟨-1, Ev.bind hS (Ev.now _), Ev.bind hI (Ev.now _)⟩

end Go.Proofs.Ythibphndihjcaaa.P
namespace Go.Proofs.Ythibphndihjcaaa.Pure
open Go.RowKit Go.Proofs.Ythibphndihjcaaa.P Go.Proofs.YthibphndihjcaaaW.PrintWords Go.Proofs.YthibphndihjcaaaW.PrintLast
set_option linter.unusedVariables false
set_option linter.unusedSimpArgs false
set_option maxRecDepth 100000 in
theorem FnExactCountCommuting : laws_FnExactCountCommuting.Pure := by
  intro n w wf_n hm_w hb_w hw_w
  apply Ev.rounds
  by_cases hl : (w.length : Int) > 1048576
  · refine Ev.congr (f := fun _ => some true) (fun k => ?_) (Ev.now _)
    simp only [laws_FnExactCountCommuting.f]; rw [if_pos hl]
  have hl2 : w.length ≤ 1048576 := by omega
  have hT := c_toIntS w (by omega) (by omega)
  have hE1 := c_eqIntS_self w (by omega)
  obtain ⟨r, hS, hI⟩ := c_count n w hl2
  unfold laws_FnExactCountCommuting.f
  refine Ev.congr (fun k => if_neg hl) ?_
  repeat' first
    | exact Ev.now _
    | (refine Ev.bind hT ?_; try dsimp only)
    | (refine Ev.bind hE1 ?_; try dsimp only)
    | (refine Ev.bind hS ?_; try dsimp only)
    | (refine Ev.bind hI ?_; try dsimp only)
    | (simp only [Bool.false_eq_true, if_true, if_false, bne_self_eq_false, Bool.not_true, Bool.not_false, ne_eq, not_true_eq_false, not_false_eq_true, reduceIte])
end Go.Proofs.Ythibphndihjcaaa.Pure
