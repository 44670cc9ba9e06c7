/- Plain laws of the exchanged pairs of a wiring: the reference's and the program's tell 'cSwaps'. Conditions: the list has at most 2^20 places. -/
import Derived.Test.YtmidcafamppkeaaDoorCBase
import Derived.Test.YtmidcafamppkeaaDoorCWiring
import Derived.Test.YtmidcafamppkeaaDoorOSwaps
import Derived.Test.YtmidcafamppkeaaDoorP35
namespace Go.Proofs.YtmidcafamppkeaaDoor.P
open Go.RowKit Go.Proofs.YtmidcafamppkeaaDoorW.PrintWords Go.Proofs.YtmidcafamppkeaaDoorW.PrintLast
set_option linter.unusedVariables false
set_option linter.unusedSimpArgs false

/-- The exchanged pairs. -/
def cSwaps : List Int → List Int → List (List Int)
  | _, [] => []
  | ws, p :: w => [ws.getD p.toNat 0, ws.getD (p.toNat + 1) 0] :: cSwaps (cSwap ws p.toNat) w
theorem cSwaps_length : ∀ (w ws : List Int), (cSwaps ws w).length = w.length
  | [], _ => rfl
  | p :: w, ws => by simp [cSwaps, cSwaps_length w]
theorem c_rdL (x : List (List Int)) (i : Nat) : rd_L2 x (i : Int) = x.getD i [] := by simp [rd_L2]
theorem c_cRun {ws : List Int} {p : Int} {w : List Int} (h : cRun ws (p :: w) = true) : cOk ws p ∧ cRun (cSwap ws p.toNat) w = true := by
  simp only [cRun] at h
  by_cases hk : cOk ws p
  · rw [if_pos hk] at h; exact ⟨hk, h⟩
  · rw [if_neg hk] at h; exact absurd h (by simp)
theorem swR_eq : ∀ (w ws : List Int), ws.length ≤ 1000 → cRun ws w = true → swR ws w = cSwaps ws w
  | [], _, _, _ => rfl
  | p :: w, ws, hl, h => by
    obtain ⟨hk, h2⟩ := c_cRun h
    obtain ⟨h0, h1, _⟩ := hk
    obtain ⟨q, rfl⟩ : ∃ q : Nat, p = (q : Int) := ⟨p.toNat, by omega⟩
    have e1 : wrap64 ((q : Int) + 1) = ((q + 1 : Nat) : Int) := c_w1 q (by omega)
    have e2 : swX ws (q : Int) = cSwap ws q := by unfold swX cSwap; rw [e1, c_rd, c_rd, Int.toNat_natCast, Int.toNat_natCast]
    simp only [swR, cSwaps, e1, e2, c_rd, Int.toNat_natCast]
    rw [swR_eq w _ (by rw [cSwap_length]; exact hl) (by simpa using h2)]
theorem cS_swaps_l (w : List Int) (hw : w.length ≤ 1048576) : ∀ (d i : Nat) (acc : List (List Int)) (ws : List Int), i + d = w.length → acc.length = i → 2 ≤ ws.length → ws.length ≤ 1000 → cRun ws (w.drop i) = true →
    Ev (fun k => spec_l12Swaps.l0 k w acc ws (i : Int)) (acc ++ cSwaps ws (w.drop i)) := by
  intro d
  induction d with
  | zero =>
    intro i acc ws hi ha hn hn2 hr
    rw [List.drop_eq_nil_of_le (by omega)]
    refine Ev.step (f := fun _ => some acc) (fun k => ?_) (by simpa [cSwaps] using Ev.now _)
    simp only [spec_l12Swaps.l0]; rw [if_neg (by omega)]
  | succ d ih =>
    intro i acc ws hi ha hn hn2 hr
    rw [c_drop w i (by omega)] at hr ⊢
    obtain ⟨hk, h2⟩ := c_cRun hr
    have hk' := hk
    obtain ⟨h0, h1, _⟩ := hk'
    have hs := c_swap ws (w.getD i 0) hn (by omega)
    rw [if_pos hk] at hs
    obtain ⟨q, hq⟩ : ∃ q : Nat, w.getD i 0 = (q : Int) := ⟨(w.getD i 0).toNat, by omega⟩
    rw [hq] at hs h0 h1 h2 ⊢
    refine Ev.step (f := fun k => spec_l12Swaps.l0 k w (acc ++ [[ws.getD q 0, ws.getD (q + 1) 0]]) (cSwap ws q) ((i + 1 : Nat) : Int)) (fun k => ?_) ?_
    · simp only [spec_l12Swaps.l0]
      rw [if_pos (by omega), if_pos (by omega), c_rd, hq, c_w1 q (by omega), if_pos (by omega), if_pos (by omega), if_pos (by omega), if_pos (by omega), if_pos (by omega), hs, c_w1 i (by omega), c_rd, c_rd]
      simp
    · have := ih (i + 1) (acc ++ [[ws.getD q 0, ws.getD (q + 1) 0]]) (cSwap ws q) (by omega) (by simp [ha]) (by rw [cSwap_length]; exact hn) (by rw [cSwap_length]; exact hn2) (by simpa using h2)
      simpa [cSwaps] using this
theorem cS_swaps (n : Int) (w : List Int) (hl : w.length ≤ 1048576) (h : cIsW n w = true) : Ev (fun k => spec_l12Swaps.f k n w) (cSwaps (cStart n.toNat) w) := by
  obtain ⟨h3, h6, _, hr⟩ := c_isW_spec h
  unfold spec_l12Swaps.f
  refine Ev.bind (c_start n h3 h6) ?_
  have := cS_swaps_l w hl w.length 0 [] (cStart n.toNat) (by omega) rfl (by rw [cStart_length]; omega) (by rw [cStart_length]; omega) (by simpa using hr)
  simpa using this
theorem cI_swaps (n : Int) (w : List Int) (hl : w.length ≤ 1048576) : Ev (fun k => impl_SwapsOf.f k n w) (if cIsW n w = true then cSwaps (cStart n.toNat) w else []) := by
  unfold impl_SwapsOf.f
  refine Ev.bind (c_isW n w (by omega)) ?_
  by_cases h : cIsW n w = true
  · obtain ⟨h3, h6, hn, hr⟩ := c_isW_spec h
    have hlen := c_isW_len h
    simp only [h, if_true]
    refine Ev.bind (c_upTo n h3 h6) ?_
    have hrun : Ev (fun k => impl_run.f k n w) true := by
      unfold impl_run.f
      refine Ev.bind (c_upTo n h3 h6) ?_
      have := c_run_l n w (by omega) h3 h6 w.length 0 (cStart n.toNat) (by omega) (by rw [cStart_length]; omega)
      rw [List.drop_zero, hr] at this
      simpa using this
    refine Ev.bind hrun ?_
    simp only [if_true]
    rw [if_pos (by omega), swR_eq w _ (by rw [cStart_length]; omega) hr]
    exact Ev.now _
  · simp only [if_neg h]; exact Ev.now _
theorem cSplit (ws : List Int) (p : Nat) (h : p + 1 < ws.length) : ∃ (l1 : List Int) (a b : Int) (l2 : List Int), ws = l1 ++ a :: b :: l2 ∧ l1.length = p := by
  refine ⟨ws.take p, ws[p], ws[p + 1], ws.drop (p + 2), ?_, by simp; omega⟩
  rw [← List.drop_eq_getElem_cons (by omega), ← List.drop_eq_getElem_cons (by omega), List.take_append_drop]
theorem cSwap_app (l1 l2 : List Int) (a b : Int) : cSwap (l1 ++ a :: b :: l2) l1.length = l1 ++ b :: a :: l2 := by
  simp [cSwap, List.getD_eq_getElem?_getD, List.getElem?_append_right, List.set_append_right]
theorem cSwap_perm (ws : List Int) (p : Nat) (h : p + 1 < ws.length) : (cSwap ws p).Perm ws := by
  obtain ⟨l1, a, b, l2, rfl, rfl⟩ := cSplit ws p h
  rw [cSwap_app]
  exact List.Perm.append_left l1 (List.Perm.swap a b l2)
theorem cStart_nodup (n : Nat) : (cStart n).Nodup := by
  unfold cStart
  exact List.Pairwise.map _ (fun a b h => fun he => h (by exact Int.ofNat.inj he)) List.nodup_range
theorem cStart_mem (n : Nat) (x : Int) (h : x ∈ cStart n) : 0 ≤ x ∧ x < n := by
  unfold cStart at h
  obtain ⟨a, ha, rfl⟩ := List.mem_map.1 h
  have := List.mem_range.1 ha
  omega
/-- The pairs rise. -/
theorem cSwaps_pair (n : Int) : ∀ (w ws : List Int), ws.Nodup → (∀ x ∈ ws, 0 ≤ x ∧ x < n) → cRun ws w = true → ∀ r ∈ cSwaps ws w, ∃ a b : Int, r = [a, b] ∧ 0 ≤ a ∧ a < b ∧ b < n
  | [], _, _, _, _, r, hr => by simp [cSwaps] at hr
  | p :: w, ws, hd, hm, h, r, hr => by
    obtain ⟨⟨h0, h1, h2⟩, h3⟩ := c_cRun h
    have hlt : p.toNat + 1 < ws.length := by omega
    have hp := cSwap_perm ws p.toNat hlt
    simp only [cSwaps, List.mem_cons] at hr
    rcases hr with rfl | hr
    · refine ⟨_, _, rfl, ?_⟩
      have e1 : ws.getD p.toNat 0 = ws[p.toNat] := by simp [List.getD_eq_getElem?_getD, show p.toNat < ws.length by omega]
      have e2 : ws.getD (p.toNat + 1) 0 = ws[p.toNat + 1] := by simp [List.getD_eq_getElem?_getD, hlt]
      rw [e1, e2] at h2 ⊢
      have m1 := hm _ (List.getElem_mem (show p.toNat < ws.length by omega))
      have m2 := hm _ (List.getElem_mem hlt)
      have hne : ws[p.toNat] ≠ ws[p.toNat + 1] := fun he => by
        have := List.pairwise_iff_getElem.1 hd p.toNat (p.toNat + 1) (by omega) hlt (by omega)
        exact this he
      omega
    · exact cSwaps_pair n w _ (hp.nodup_iff.2 hd) (fun x hx => hm x (hp.mem_iff.1 hx)) h3 r hr
theorem cSwaps_pairs {n : Int} {w : List Int} (h : cIsW n w = true) : ∀ r ∈ cSwaps (cStart n.toNat) w, ∃ a b : Int, r = [a, b] ∧ 0 ≤ a ∧ a < b ∧ b < n := by
  obtain ⟨h3, h6, _, hr⟩ := c_isW_spec h
  exact cSwaps_pair n w _ (cStart_nodup _) (fun x hx => by have := cStart_mem _ x hx; omega) hr

end Go.Proofs.YtmidcafamppkeaaDoor.P
