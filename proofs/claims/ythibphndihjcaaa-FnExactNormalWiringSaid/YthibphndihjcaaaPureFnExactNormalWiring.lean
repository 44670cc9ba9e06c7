/- For every n and every list of at most 2^20 places the program's NormalWiring returns what the reference's returns and leaves its list alone; longer lists are passed by the law itself. Conditions: none. -/
import Derived.Test.YthibphndihjcaaaCBase
import Derived.Test.YthibphndihjcaaaCWos
import Derived.Test.YthibphndihjcaaaCSow
import Derived.Test.YthibphndihjcaaaONorm
import Derived.Test.YthibphndihjcaaaP40
namespace Go.Proofs.Ythibphndihjcaaa.Pure
open Go.RowKit Go.Proofs.Ythibphndihjcaaa.P Go.Proofs.YthibphndihjcaaaW.PrintWords Go.Proofs.YthibphndihjcaaaW.PrintLast
set_option linter.unusedVariables false
set_option linter.unusedSimpArgs false
theorem cNw_size (n : Int) (w : List Int) : (cSow n w).2.1.size ≤ 1099511627776 := by
  unfold cSow
  by_cases h : cIsW n w = true
  · rw [if_pos h]
    obtain ⟨h3, h6, _, hr⟩ := c_isW_spec h
    show (cTx n.toNat (cSf (cL n.toNat w))).size ≤ 1099511627776
    rw [cTx_size]
    have hm : n.toNat = 3 ∨ n.toNat = 4 ∨ n.toNat = 5 ∨ n.toNat = 6 := by omega
    exact Nat.le_trans (c_trips_all n.toNat (by rcases hm with e | e | e | e <;> rw [e] <;> decide)).1 (by decide)
  · rw [if_neg h]; exact (by decide : (0 : Nat) ≤ 1099511627776)
set_option maxRecDepth 100000 in
theorem FnExactNormalWiring : laws_FnExactNormalWiring.Pure := by
  intro n w wf_n hm_w hb_w hw_w
  apply Ev.rounds
  by_cases hl : (w.length : Int) > 1048576
  · refine Ev.congr (f := fun _ => some true) (fun k => ?_) (Ev.now _)
    simp only [laws_FnExactNormalWiring.f]; rw [if_pos hl]
  have hl2 : w.length ≤ 1048576 := by omega
  have hT := c_toIntS w (by omega) (by omega)
  have hE1 := c_eqIntS_self w (by omega)
  have hs : ∃ q : List Int × Bool, q.1.length < 100 ∧ Ev (fun k => spec_NormalWiring.f k n w) q ∧ Ev (fun k => impl_NormalWiring.f k n w) q := by
    have hS := cS_Sow n w hl2
    have hI := cI_Sow n w hl2
    have hz := cNw_size n w
    generalize cSow n w = q at hS hI hz
    obtain ⟨r1, r2, r3⟩ := q
    unfold spec_NormalWiring.f impl_NormalWiring.f
    cases r3 with
    | false => exact ⟨([], false), by decide, Ev.bind hS (Ev.now _), Ev.bind hI (Ev.now _)⟩
    | true => exact ⟨cWos r1 r2, cWos_len r1 r2, Ev.bind hS (Ev.bind (cS_Wos r1 r2 hz) (Ev.now _)), Ev.bind hI (cI_Wos r1 r2 hz)⟩
  obtain ⟨⟨r, b⟩, hlen, hS, hI⟩ := hs
  have hlen2 : r.length < 100 := hlen
  have hE := c_eqIntS_self r (by omega)
  have hMw := c_markIntS w 1 (by omega) (by omega) (by omega)
  have hM := c_markIntS r 1 (by omega) (by omega) (by omega)
  have hH := c_heldIntS 1 r.length (by omega) (by omega) (by omega)
  have hn1 : ¬ (1 + (w.length : Int) < 0) := by omega
  have hn2 : ¬ (1 + (r.length : Int) < 0) := by omega
  unfold laws_FnExactNormalWiring.f
  refine Ev.congr (fun k => if_neg hl) ?_
  refine Ev.bind hT ?_
  refine Ev.bind hS ?_
  refine Ev.bind hT ?_
  refine Ev.bind hI ?_
  refine Ev.bind hE ?_
  simp only [if_true, bne_self_eq_false]
  refine Ev.step (f := fun k => (laws_toIntS.f k w).bind fun t537 => (laws_eqIntS.f k w t537).bind fun t540 => (if t540 = true then ((laws_markIntS.f k w 1).bind fun bt541 => (if bt541.1 < 0 then (laws_FnExactNormalWiring.j1 k n w r b r true) else ((laws_eqIntS.f k r r).bind fun t543 => (if t543 = true then (laws_FnExactNormalWiring.j1 k n w r b r (b != b)) else (laws_FnExactNormalWiring.j1 k n w r b r true))))) else (some false))) (fun k => ?_) ?_
  · rw [laws_FnExactNormalWiring.j0, if_neg (by decide)]
  refine Ev.bind hT ?_
  refine Ev.bind hE1 ?_
  simp only [if_true]
  refine Ev.bind hMw ?_
  simp only [if_neg hn1]
  refine Ev.bind hE ?_
  simp only [if_true, bne_self_eq_false]
  refine Ev.step (f := fun k => (laws_markIntS.f k r 1).bind fun bt544 => (laws_heldIntS.f k bt544.2 1).bind fun t546 => (if t546 < 0 then (some false) else (if t546 = bt544.1 then ((laws_toIntS.f k w).bind fun t547 => (impl_NormalWiring.f k n t547).bind fun bt550 => (laws_eqIntS.f k bt550.1 r).bind fun t554 => (if t554 = true then (laws_FnExactNormalWiring.j2 k bt544.2 bt544.1 (bt550.2 != b)) else (laws_FnExactNormalWiring.j2 k bt544.2 bt544.1 true))) else (some false)))) (fun k => ?_) ?_
  · rw [laws_FnExactNormalWiring.j1, if_neg (by decide)]
  refine Ev.bind hM ?_
  refine Ev.bind hH ?_
  simp only [if_neg hn2, if_true]
  refine Ev.bind hT ?_
  refine Ev.bind hI ?_
  refine Ev.bind hE ?_
  simp only [if_true, bne_self_eq_false]
  refine Ev.step (f := fun k => (laws_heldIntS.f k (c_marks 1 r.length) 1).bind fun t => if t < 0 then some false else (if t = 1 + (r.length : Int) then some true else some false)) (fun k => ?_) ?_
  · rw [laws_FnExactNormalWiring.j2, if_neg (by decide)]
  refine Ev.bind hH ?_
  simp only [if_neg hn2, if_true]
  exact Ev.now _
end Go.Proofs.Ythibphndihjcaaa.Pure
