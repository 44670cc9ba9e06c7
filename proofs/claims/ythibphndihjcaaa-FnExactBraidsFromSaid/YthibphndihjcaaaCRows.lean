/- Plain laws of eqIntSS, markIntSS and heldIntSS. Conditions: at most 2^20 rows of at most 2^10 numbers. -/
import Derived.Test.YthibphndihjcaaaCBase
import Derived.Test.YthibphndihjcaaaOMarkSS
import Derived.Test.YthibphndihjcaaaP25
namespace Go.Proofs.Ythibphndihjcaaa.P
open Go.RowKit Go.Proofs.YthibphndihjcaaaW.PrintWords Go.Proofs.YthibphndihjcaaaW.PrintLast
set_option linter.unusedVariables false
set_option linter.unusedSimpArgs false

theorem c_rdR (x : List (List Int)) (i : Nat) : rd_L1 x (i : Int) = x.getD i [] := by simp [rd_L1]
theorem c_gR (x : List (List Int)) (i : Nat) (h : i < x.length) : x.getD i [] = x[i] := by simp [List.getD_eq_getElem?_getD, h]
theorem c_eqSS_l (x : List (List Int)) (hx : x.length ≤ 1048576) (hr : ∀ r ∈ x, r.length ≤ 1024) : ∀ (d i : Nat), i + d = x.length → Ev (fun k => laws_eqIntSS.l0 k x x (i : Int)) true := by
  intro d
  induction d with
  | zero =>
    intro i hi
    refine Ev.step (f := fun _ => some true) (fun k => ?_) (Ev.now _)
    simp only [laws_eqIntSS.l0]; rw [if_neg (by omega)]
  | succ d ih =>
    intro i hi
    have hlt : i < x.length := by omega
    refine Ev.step (f := fun k => (laws_eqIntS.f k x[i] x[i]).bind fun t => if t = true then laws_eqIntSS.l0 k x x ((i + 1 : Nat) : Int) else some false) (fun k => ?_) ?_
    · simp only [laws_eqIntSS.l0]
      rw [if_pos (by omega), if_pos (by omega), if_pos (by omega), c_rdR, c_gR x i hlt, c_w1 i (by omega)]
    · refine Ev.bind (c_eqIntS_self x[i] (by have := hr _ (List.getElem_mem hlt); omega)) ?_
      simp only [if_true]
      exact ih (i + 1) (by omega)
theorem c_eqSS_self (x : List (List Int)) (hx : x.length ≤ 1048576) (hr : ∀ r ∈ x, r.length ≤ 1024) : Ev (fun k => laws_eqIntSS.f k x x) true := by
  unfold laws_eqIntSS.f
  simp only [if_true]
  exact c_eqSS_l x hx hr x.length 0 (Nat.zero_add _)
/-- Rows that are marked with numbers that rise, and the number behind them. -/
def cMR : List (List Int) → Int → List (List Int)
  | [], _ => []
  | r :: x, a => c_marks a r.length :: cMR x (a + (r.length : Int))
def cME : List (List Int) → Int → Int
  | [], a => a
  | r :: x, a => cME x (a + (r.length : Int))
theorem cMR_len : ∀ (x : List (List Int)) (a : Int), (cMR x a).length = x.length
  | [], _ => rfl
  | r :: x, a => by simp [cMR, cMR_len x]
theorem cME_bd : ∀ (x : List (List Int)) (a : Int), (∀ r ∈ x, r.length ≤ 1024) → a ≤ cME x a ∧ cME x a ≤ a + 1024 * (x.length : Int)
  | [], a, _ => by simp [cME]
  | r :: x, a, h => by
    have h1 := h r (List.mem_cons_self ..)
    have h2 := cME_bd x (a + (r.length : Int)) (fun r hr => h r (List.mem_cons_of_mem _ hr))
    simp only [cME, List.length_cons]
    omega
theorem c_markSS_l : ∀ (x : List (List Int)) (pre : List (List Int)) (a : Int), (∀ r ∈ x, r.length ≤ 1024) → 0 ≤ a → a + 1024 * (x.length : Int) ≤ 1099511627776 → pre.length + x.length ≤ 1048576 →
    Ev (fun k => laws_markIntSS.l0 k (pre ++ x) a (pre.length : Int)) (cME x a, pre ++ cMR x a)
  | [], pre, a, _, _, _, _ => by
    refine Ev.step (f := fun _ => some (a, pre)) (fun k => ?_) (by simpa [cME, cMR] using Ev.now _)
    simp only [laws_markIntSS.l0]; rw [if_neg (by simp), List.append_nil]
  | r :: x, pre, a, hr, h0, ha, hl => by
    have h1 := hr r (List.mem_cons_self ..)
    rw [List.length_cons] at ha hl
    have hg : (pre ++ r :: x).getD pre.length [] = r := by simp [List.getD_eq_getElem?_getD]
    have hs : ∀ y : List Int, (pre ++ r :: x).set pre.length y = (pre ++ [y]) ++ x := fun y => by simp
    refine Ev.step (f := fun k => (laws_markIntS.f k r a).bind fun t => laws_markIntSS.l0 k ((pre ++ [t.2]) ++ x) t.1 ((pre.length + 1 : Nat) : Int)) (fun k => ?_) ?_
    · simp only [laws_markIntSS.l0, Int.toNat_natCast, hg, hs]
      rw [if_pos (by simp; omega), if_pos (by omega), c_w1 pre.length (by omega)]
    · refine Ev.bind (c_markIntS r a h0 (by omega) (by omega)) ?_
      have h := c_markSS_l x (pre ++ [c_marks a r.length]) (a + (r.length : Int)) (fun r hr' => hr r (List.mem_cons_of_mem _ hr')) (by omega) (by omega) (by rw [List.length_append, List.length_singleton]; omega)
      rw [List.length_append, List.length_singleton] at h
      simpa [cME, cMR] using h
theorem c_markSS (x : List (List Int)) (a : Int) (hr : ∀ r ∈ x, r.length ≤ 1024) (h0 : 0 ≤ a) (ha : a + 1024 * (x.length : Int) ≤ 1099511627776) (hl : x.length ≤ 1048576) : Ev (fun k => laws_markIntSS.f k x a) (cME x a, cMR x a) := by
  have h := c_markSS_l x [] a hr h0 ha (by simpa using hl)
  exact h
theorem c_heldSS_l : ∀ (x : List (List Int)) (pre : List (List Int)) (a : Int), (∀ r ∈ x, r.length ≤ 1024) → 0 ≤ a → a + 1024 * (x.length : Int) ≤ 1099511627776 → pre.length + x.length ≤ 1048576 →
    Ev (fun k => laws_heldIntSS.l0 k (pre ++ cMR x a) a (pre.length : Int)) (cME x a)
  | [], pre, a, _, _, _, _ => by
    refine Ev.step (f := fun _ => some a) (fun k => ?_) (by simpa [cME] using Ev.now _)
    simp only [laws_heldIntSS.l0]; rw [if_neg (by simp [cMR])]
  | r :: x, pre, a, hr, h0, ha, hl => by
    have h1 := hr r (List.mem_cons_self ..)
    rw [List.length_cons] at ha hl
    have hg : rd_L1 (pre ++ cMR (r :: x) a) (pre.length : Int) = c_marks a r.length := by rw [c_rdR]; simp [List.getD_eq_getElem?_getD, cMR]
    refine Ev.step (f := fun k => (laws_heldIntS.f k (c_marks a r.length) a).bind fun t => if t < 0 then some (-1) else laws_heldIntSS.l0 k (pre ++ cMR (r :: x) a) t ((pre.length + 1 : Nat) : Int)) (fun k => ?_) ?_
    · simp only [laws_heldIntSS.l0, hg]
      rw [if_pos (by simp [cMR]; omega), if_pos (by omega), c_w1 pre.length (by omega)]
    · refine Ev.bind (c_heldIntS a r.length h0 (by omega) (by omega)) ?_
      simp only [show ¬ (a + (r.length : Int) < 0) by omega, if_false]
      have h := c_heldSS_l x (pre ++ [c_marks a r.length]) (a + (r.length : Int)) (fun r hr' => hr r (List.mem_cons_of_mem _ hr')) (by omega) (by omega) (by rw [List.length_append, List.length_singleton]; omega)
      rw [List.length_append, List.length_singleton] at h
      simpa [cME, cMR] using h
theorem c_heldSS (x : List (List Int)) (a : Int) (hr : ∀ r ∈ x, r.length ≤ 1024) (h0 : 0 ≤ a) (ha : a + 1024 * (x.length : Int) ≤ 1099511627776) (hl : x.length ≤ 1048576) : Ev (fun k => laws_heldIntSS.f k (cMR x a) a) (cME x a) := by
  have h := c_heldSS_l x [] a hr h0 ha (by simpa using hl)
  exact h

end Go.Proofs.Ythibphndihjcaaa.P
