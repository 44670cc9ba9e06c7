/- WiringOfSigns: the reference and the program tell the same. Conditions: a text of at most 2^40 letters. -/
import Derived.Test.YthibphndihjcaaaCWl
namespace Go.Proofs.Ythibphndihjcaaa.P
open Go.RowKit Go.Proofs.YthibphndihjcaaaW.PrintWords Go.Proofs.YthibphndihjcaaaW.PrintLast
set_option linter.unusedVariables false
set_option linter.unusedSimpArgs false

theorem g_run_len (l : List Int) (n : Nat) : ∀ (m : Nat) (ws : List Int) (D : List Bool) (o r : List Int), wgRun l n m ws D o = some r → r.length = m + o.length := by
  intro m
  induction m with
  | zero => intro ws D o r h; unfold wgRun at h; cases h; rw [Nat.zero_add]
  | succ m ih =>
    intro ws D o r h
    unfold wgRun at h
    cases hf : wgFind l D n ws with
    | none => rw [hf] at h; cases h
    | some p =>
      rw [hf] at h
      have := ih _ _ _ _ h
      rw [this, List.length_append, List.length_singleton]; omega
/-- What WiringOfSigns hands back. -/
def cWos (n : Int) (s : ByteArray) : List Int × Bool := if cSigns n s = true then (if n > 6 then ([], false) else wgRes (wgRun (cTab n.toNat s) n.toNat (n.toNat * (n.toNat - 1) / 2) (cStart n.toNat) (List.replicate 36 false) [])) else ([], false)
theorem g_m_lt (n : Nat) (h3 : 3 ≤ n) (h6 : n ≤ 6) : n * (n - 1) / 2 < 100 ∧ ((n * (n - 1) / 2 : Nat) : Int) = (n : Int) * ((n : Int) - 1) / 2 := by
  have : n = 3 ∨ n = 4 ∨ n = 5 ∨ n = 6 := by omega
  rcases this with rfl | rfl | rfl | rfl <;> exact ⟨by decide +kernel, by decide +kernel⟩
theorem cWos_len (n : Int) (s : ByteArray) : (cWos n s).1.length < 100 := by
  unfold cWos
  by_cases h : cSigns n s = true
  · rw [if_pos h]
    obtain ⟨m, rfl, h3, h7, hs⟩ := c_signs_open n s h
    by_cases h6 : (m : Int) > 6
    · rw [if_pos h6]; exact (by decide : (0 : Nat) < 100)
    · rw [if_neg h6, wgRes_1, Int.toNat_natCast]
      cases hr : wgRun (cTab m s) m (m * (m - 1) / 2) (cStart m) (List.replicate 36 false) [] with
      | none => exact (by decide : (0 : Nat) < 100)
      | some r =>
        have := g_run_len _ _ _ _ _ _ _ hr
        show r.length < 100
        rw [this]; exact (g_m_lt m h3 (by omega)).1
  · rw [if_neg h]; exact (by decide : (0 : Nat) < 100)
theorem g_start (n : Nat) : gWs n (cStart n) := by
  refine ⟨cStart_length n, fun p hp => ⟨p, hp, ?_⟩⟩
  unfold cStart
  rw [List.getD_eq_getElem?_getD, List.getElem?_map, List.getElem?_range hp]; rfl
theorem g_rel0 (n : Nat) : gRel n (fun _ _ => false) (List.replicate (n * n) false) (List.replicate 36 false) := by
  have hr : ∀ m i : Nat, (List.replicate m false).getD i false = false := by
    intro m i
    rw [List.getD_eq_getElem?_getD, List.getElem?_replicate]; split <;> rfl
  exact ⟨List.length_replicate, List.length_replicate, fun _ _ _ _ => hr _ _, fun _ _ _ _ => hr _ _⟩
theorem g_nn (n : Nat) (h6 : n ≤ 6) : wrap64 ((n : Int) * (n : Int)) = ((n * n : Nat) : Int) ∧ n * n ≤ 281474976710656 := by
  have : n = 0 ∨ n = 1 ∨ n = 2 ∨ n = 3 ∨ n = 4 ∨ n = 5 ∨ n = 6 := by omega
  rcases this with rfl | rfl | rfl | rfl | rfl | rfl | rfl <;> exact ⟨by decide +kernel, by decide +kernel⟩
theorem cS_Wos (n : Int) (s : ByteArray) (hs : s.size ≤ 1099511627776) : Ev (fun k => spec_WiringOfSigns.f k n s) (cWos n s) := by
  unfold spec_WiringOfSigns.f cWos
  refine Ev.bind (c_specSigns n s hs) ?_
  by_cases h : cSigns n s = true
  · rw [if_pos h]
    simp only [if_pos h]
    obtain ⟨m, rfl, h3, h7, hsz⟩ := c_signs_open n s h
    by_cases h6 : (m : Int) > 6
    · rw [if_pos h6, decide_eq_true h6]
      refine Ev.step (f := fun _ => some ([], false)) (fun k => ?_) (Ev.now _)
      rw [spec_WiringOfSigns.j0, if_pos rfl]
    · rw [if_neg h6, decide_eq_false h6, Int.toNat_natCast]
      have h6' : m ≤ 6 := by omega
      obtain ⟨e1, e2⟩ := g_nn m h6'
      refine Ev.step (f := fun k => (spec_l12Start.f k (m : Int)).bind fun t => spec_WiringOfSigns.l0 k (List.replicate (m * m) false) t [] (m : Int) s) (fun k => ?_) ?_
      · rw [spec_WiringOfSigns.j0, if_neg (by decide), e1, if_pos (Int.natCast_nonneg _), Int.toNat_natCast, if_pos e2]
      · have hst := c_start (m : Int) (by omega) (by omega)
        rw [Int.toNat_natCast] at hst
        refine Ev.bind hst ?_
        obtain ⟨q1, q2⟩ := g_m_lt m h3 h6'
        exact g_l0 m h3 h6' s hsz (m * (m - 1) / 2) (fun _ _ => false) (fun x y z _ _ _ => ⟨fun _ hh => absurd hh Bool.false_ne_true, fun _ hh => absurd hh Bool.false_ne_true⟩) _ _ (g_rel0 m) _ (g_start m) [] q2 q1
  · rw [if_neg h]
    simp only [if_neg h]
    refine Ev.step (f := fun _ => some ([], false)) (fun k => ?_) (Ev.now _)
    rw [spec_WiringOfSigns.j0, if_pos rfl]
theorem cI_Wos (n : Int) (s : ByteArray) (hs : s.size ≤ 1099511627776) : Ev (fun k => impl_WiringOfSigns.f k n s) (cWos n s) := by
  unfold impl_WiringOfSigns.f cWos
  refine Ev.bind (c_implSigns n s hs) ?_
  by_cases h : cSigns n s = true
  · rw [if_pos h]
    simp only [if_pos h]
    obtain ⟨m, rfl, h3, h7, hsz⟩ := c_signs_open n s h
    by_cases h6 : (m : Int) > 6
    · rw [if_pos h6]
      simp only [if_pos h6]
      exact Ev.now _
    · rw [if_neg h6, Int.toNat_natCast]
      simp only [if_neg h6]
      have h6' : m ≤ 6 := by omega
      refine Ev.bind (c_tableOf m h3 h7 s hsz) ?_
      have hn := c_tab_n m h3 h7 s
      have hl : (cTab m s).length = 344 := by unfold cTab; rw [c_fold_len, c_chi0_len]
      unfold impl_chi_wiring.f
      rw [hn, Int.toNat_natCast, hl]
      refine Ev.congr (fun k => if_pos ⟨Nat.le_refl _, rfl, h3, h6'⟩) ?_
      have hst := c_upTo (m : Int) (by omega) (by omega)
      rw [Int.toNat_natCast] at hst
      refine Ev.bind hst ?_
      have hok : (cStart m).length = m ∧ ∀ x ∈ cStart m, 0 ≤ x ∧ x < 6 := by
        refine ⟨cStart_length m, fun x hx => ?_⟩
        unfold cStart at hx
        obtain ⟨i, hi, rfl⟩ := List.mem_map.mp hx
        have := List.mem_range.mp hi
        omega
      simp only [if_pos hok]
      exact Ev.now _
  · rw [if_neg h]
    simp only [if_neg h]
    exact Ev.now _
