/- Two texts with the same run have the same signs. Conditions: signs of at most six elements. -/
import Derived.Test.YthibphndihjcaaaCWm
import Derived.Test.YthibphndihjcaaaCLnk
namespace Go.Proofs.Ythibphndihjcaaa.P
open Go.RowKit Go.Proofs.YthibphndihjcaaaW.PrintWords Go.Proofs.YthibphndihjcaaaW.PrintLast
set_option linter.unusedVariables false
set_option linter.unusedSimpArgs false

/-- A plus: the last pair after the outer one; a minus: the first pair after the outer one. -/
def gInv2 (n : Nat) (s : ByteArray) (d : Nat → Nat → Bool) : Prop := ∀ x y z, x < y → y < z → z < n → (0 < cAt n s x y z → d y z = true → d x z = true) ∧ (¬ 0 < cAt n s x y z → d x y = true → d x z = true)
theorem g_inv2_set (n : Nat) (s : ByteArray) (d : Nat → Nat → Bool) (hI : gInv2 n s d) (a b : Nat) (hab : a < b) (hb : b < n) (hmay : (List.range n).any (gX n s d a b) = false) : gInv2 n s (gSet d a b) := by
  have hno : ∀ x, x < n → gX n s d a b x = false := by
    intro x hx
    cases h : gX n s d a b x with
    | false => rfl
    | true => exact absurd hmay (by rw [List.any_eq_true.mpr ⟨x, List.mem_range.mpr hx, h⟩]; decide)
  have hup : ∀ x y, d x y = true → gSet d a b x y = true := by
    intro x y h
    unfold gSet; split
    · rfl
    · exact h
  intro x y z hxy hyz hz
  obtain ⟨i1, i2⟩ := hI x y z hxy hyz hz
  refine ⟨fun hp hq => ?_, fun hp hq => ?_⟩
  · by_cases he : y = a ∧ z = b
    · obtain ⟨rfl, rfl⟩ := he
      have hg := hno x (by omega)
      unfold gX at hg
      rw [if_neg (by omega), if_pos hxy, decide_eq_true hp, Bool.true_and] at hg
      refine hup _ _ ?_
      cases q : d x z with
      | true => rfl
      | false => rw [q] at hg; exact absurd hg (by decide)
    · have hy' : gSet d a b y z = d y z := if_neg he
      rw [hy'] at hq
      exact hup _ _ (i1 hp hq)
  · by_cases he : x = a ∧ y = b
    · obtain ⟨rfl, rfl⟩ := he
      have hg := hno z hz
      unfold gX at hg
      rw [if_neg (by omega), if_neg (by omega), if_neg (by omega), if_neg hp] at hg
      refine hup _ _ ?_
      cases q : d x z with
      | true => rfl
      | false => rw [q] at hg; exact absurd hg (by decide)
    · have hy' : gSet d a b x y = d x y := if_neg he
      rw [hy'] at hq
      exact hup _ _ (i2 hp hq)
/-- Two texts that the same pairs fit, all of them done in turn, differ nowhere: at the moment when the outer pair is done and one of the others is not, the sign shows. -/
theorem g_sign_shows (n : Nat) (s : ByteArray) (d : Nat → Nat → Bool) (hI : gInv n s d) (x y z : Nat) (hxy : x < y) (hyz : y < z) (hz : z < n) (hd : d x z = true) (hno : d x y = false ∨ d y z = false) : 0 < cAt n s x y z ↔ d x y = true := by
  obtain ⟨i1, i2⟩ := hI x y z hxy hyz hz
  constructor
  · intro hp; exact i1 hp hd
  · intro h
    refine Classical.byContradiction fun hp => ?_
    have h2 := i2 hp hd
    rcases hno with h3 | h3
    · rw [h] at h3; cases h3
    · rw [h2] at h3; cases h3
/-- The signs whose outer pair is done are the same in both texts. -/
def gTell (n : Nat) (s t : ByteArray) (d : Nat → Nat → Bool) : Prop := ∀ x y z, x < y → y < z → z < n → d x z = true → (0 < cAt n s x y z ↔ 0 < cAt n t x y z)
theorem g_half (n : Nat) (s : ByteArray) (d : Nat → Nat → Bool) (hI2 : gInv2 n s d) (x y z : Nat) (hxy : x < y) (hyz : y < z) (hz : z < n) (hd : d x z = false) : d x y = false ∨ d y z = false := by
  obtain ⟨i1, i2⟩ := hI2 x y z hxy hyz hz
  by_cases hp : 0 < cAt n s x y z
  · right
    cases q : d y z with
    | false => rfl
    | true => rw [i1 hp q] at hd; cases hd
  · left
    cases q : d x y with
    | false => rfl
    | true => rw [i2 hp q] at hd; cases hd
theorem g_tell_set (n : Nat) (s t : ByteArray) (d : Nat → Nat → Bool) (hs2 : gInv2 n s d) (hsI : gInv n s d) (htI : gInv n t d) (hT : gTell n s t d) (a b : Nat) (hab : a < b) (hb : b < n) (hd0 : d a b = false) (hms : (List.range n).any (gX n s d a b) = false) (hmt : (List.range n).any (gX n t d a b) = false) : gTell n s t (gSet d a b) := by
  intro x y z hxy hyz hz hd
  by_cases he : x = a ∧ z = b
  · obtain ⟨rfl, rfl⟩ := he
    have h1 := g_half n s d hs2 x y z hxy hyz hz hd0
    have e1 : gSet d x z x y = d x y := if_neg (fun h => by omega)
    have e2 : gSet d x z y z = d y z := if_neg (fun h => by omega)
    have h2 : gSet d x z x y = false ∨ gSet d x z y z = false := by rw [e1, e2]; exact h1
    rw [g_sign_shows n s _ (g_inv_set n s d hsI x z hab hb hms) x y z hxy hyz hz hd h2, g_sign_shows n t _ (g_inv_set n t d htI x z hab hb hmt) x y z hxy hyz hz hd h2]
  · have e : gSet d a b x z = d x z := if_neg he
    rw [e] at hd
    exact hT x y z hxy hyz hz hd

end Go.Proofs.Ythibphndihjcaaa.P
namespace Go.Proofs.Ythibphndihjcaaa.P
open Go.RowKit Go.Proofs.YthibphndihjcaaaW.PrintWords Go.Proofs.YthibphndihjcaaaW.PrintLast
set_option linter.unusedVariables false
set_option linter.unusedSimpArgs false

theorem g_run_pre (l : List Int) (n : Nat) : ∀ (m : Nat) (ws : List Int) (D : List Bool) (o r : List Int), wgRun l n m ws D o = some r → ∃ e, r = o ++ e := by
  intro m
  induction m with
  | zero => intro ws D o r h; unfold wgRun at h; cases h; exact ⟨[], by simp⟩
  | succ m ih =>
    intro ws D o r h
    unfold wgRun at h
    cases hf : wgFind l D n ws with
    | none => rw [hf] at h; cases h
    | some p =>
      rw [hf] at h
      obtain ⟨e, he⟩ := ih _ _ _ _ h
      exact ⟨(p : Int) :: e, by rw [he, List.append_assoc]; rfl⟩
theorem g_may_no (n : Nat) (h3 : 3 ≤ n) (h6 : n ≤ 6) (s : ByteArray) (hs : s.size = (cTrips n).length) (D : List Bool) (d : Nat → Nat → Bool) (hI : gInv n s d) (hd : ∀ x y, x < y → y < n → D.getD (x * 6 + y) false = d x y) (ws : List Int) (p : Nat) (a b : Nat) (ha : ws.getD p 0 = (a : Int)) (hb : ws.getD (p + 1) 0 = (b : Int)) (hbn : b < n) (h : wgOk (cTab n s) D n ws p = true) : a < b ∧ (List.range n).any (gX n s d a b) = false := by
  unfold wgOk at h
  rw [ha, hb, Bool.and_eq_true] at h
  have hab : a < b := Int.ofNat_lt.mp (of_decide_eq_true h.1)
  refine ⟨hab, ?_⟩
  have h2 := h.2
  rw [g_mayAll n h3 h6 s hs D d hI hd a b hab hbn] at h2
  cases hq : (List.range n).any (gX n s d a b) with
  | false => rfl
  | true => rw [hq] at h2; cases h2
theorem g_run_tell (n : Nat) (h3 : 3 ≤ n) (h6 : n ≤ 6) (s t : ByteArray) (hs : s.size = (cTrips n).length) (ht : t.size = (cTrips n).length) : ∀ (m : Nat) (d : Nat → Nat → Bool) (Ds D : List Bool) (ws o r : List Int), gInv2 n s d → gInv n s d → gInv n t d → gTell n s t d → kCD n d Ds → D.length = 36 → (∀ x y, x < y → y < n → D.getD (x * 6 + y) false = d x y) → gWs n ws → kInj n ws → kLnk n d ws →
    wgRun (cTab n s) n m ws D o = some r → wgRun (cTab n t) n m ws D o = some r → ∃ d' Ds', gTell n s t d' ∧ kCD n d' Ds' ∧ Ds'.count true = Ds.count true + m := by
  intro m
  induction m with
  | zero => intro d Ds D ws o r _ _ _ hT hC _ _ _ _ _ _ _; exact ⟨d, Ds, hT, hC, rfl⟩
  | succ m ih =>
    intro d Ds D ws o r hs2 hsI htI hT hC hD1 hD hW hJ hL h1 h2
    unfold wgRun at h1 h2
    cases hf : wgFind (cTab n s) D n ws with
    | none => rw [hf] at h1; cases h1
    | some p =>
      cases hg : wgFind (cTab n t) D n ws with
      | none => rw [hg] at h2; cases h2
      | some q =>
        rw [hf] at h1
        rw [hg] at h2
        simp only at h1 h2
        have hpq : p = q := by
          obtain ⟨e1, he1⟩ := g_run_pre _ _ _ _ _ _ _ h1
          obtain ⟨e2, he2⟩ := g_run_pre _ _ _ _ _ _ _ h2
          rw [he1, List.append_assoc, List.append_assoc] at he2
          have h3 := List.append_cancel_left he2
          simp only [List.cons_append, List.nil_append, List.cons.injEq] at h3
          exact Int.ofNat.inj h3.1
        subst hpq
        have hp1 : p < n - 1 := List.mem_range.mp (List.mem_of_find?_eq_some hf)
        have hpn : p + 1 < n := by omega
        obtain ⟨va, ha, hva⟩ := hW.2 p (by omega)
        obtain ⟨vb, hb, hvb⟩ := hW.2 (p + 1) hpn
        obtain ⟨hab, hns⟩ := g_may_no n h3 h6 s hs D d hsI hD ws p va vb hva hvb hb (List.find?_some hf)
        obtain ⟨_, hnt⟩ := g_may_no n h3 h6 t ht D d htI hD ws p va vb hva hvb hb (List.find?_some hg)
        have hd0 : d va vb = false := (hL p (p + 1) va vb (by omega) hpn hva hvb).1 hab
        have hix : va * n + vb < Ds.length := by rw [hC.1]; exact g_ix_lt ha hb
        have hz : Ds.getD (va * n + vb) false = false := by rw [hC.2 va vb ha hb, hd0, Bool.and_false]
        have hdone : wgDone D ws p = D.set (va * 6 + vb) true := by unfold wgDone; rw [hva, hvb, Int.toNat_natCast, Int.toNat_natCast]
        rw [hdone] at h1 h2
        obtain ⟨d', Ds', k1, k2, k3⟩ := ih (gSet d va vb) (Ds.set (va * n + vb) true) (D.set (va * 6 + vb) true) (wgSwap ws p) (o ++ [(p : Int)]) r (g_inv2_set n s d hs2 va vb hab hb hns) (g_inv_set n s d hsI va vb hab hb hns) (g_inv_set n t d htI va vb hab hb hnt) (g_tell_set n s t d hs2 hsI htI hT va vb hab hb hd0 hns hnt) (k_cd_set n d Ds hC va vb hab hb) (by rw [List.length_set]; exact hD1) (g_set n 6 h6 D d hD1 hD va vb ha hb) (g_ws_swap n ws p hpn hW) (k_inj_swap n ws p hpn hW.1 hJ) (k_lnk_swap n d ws p hpn hW.1 hJ hL va vb hva hvb hab) h1 h2
        exact ⟨d', Ds', k1, k2, by rw [k3, k_cnt_set Ds _ hix hz]; omega⟩
theorem k_cntU (n : Nat) (h3 : 3 ≤ n) (d : Nat → Nat → Bool) (Ds : List Bool) (h : kCD n d Ds) : Ds.count true ≤ (kU n).count true := by
  refine k_cnt_le Ds (kU n) (by rw [h.1, kU, List.length_map, List.length_range]) (fun i hi => ?_)
  by_cases hl : i < n * n
  · obtain ⟨x, y, hx, hy, e, ex, ey⟩ := k_split n (by omega) i hl
    rw [e, h.2 x y hx hy, Bool.and_eq_true] at hi
    rw [kU, List.getD_eq_getElem?_getD, List.getElem?_map, List.getElem?_range hl]
    show decide (i / n < i % n) = true
    rw [← ex, ← ey]; exact hi.1
  · rw [List.getD_eq_getElem?_getD, List.getElem?_eq_none (by rw [h.1]; omega)] at hi
    exact absurd hi (by simp)
theorem k_all_done (n : Nat) (h3 : 3 ≤ n) (h6 : n ≤ 6) (d : Nat → Nat → Bool) (Ds : List Bool) (h : kCD n d Ds) (hc : Ds.count true = n * (n - 1) / 2) : ∀ x y, x < y → y < n → d x y = true := by
  intro x y hxy hy
  cases q : d x y with
  | true => rfl
  | false =>
    have hU : (kU n).count true = n * (n - 1) / 2 := by
      have : n = 3 ∨ n = 4 ∨ n = 5 ∨ n = 6 := by omega
      rcases this with rfl | rfl | rfl | rfl <;> decide +kernel
    have hix : x * n + y < Ds.length := by rw [h.1]; exact g_ix_lt (Nat.lt_trans hxy hy) hy
    have hz : Ds.getD (x * n + y) false = false := by rw [h.2 x y (Nat.lt_trans hxy hy) hy, q, Bool.and_false]
    have h1 := k_cntU n h3 _ _ (k_cd_set n d Ds h x y hxy hy)
    rw [k_cnt_set Ds _ hix hz, hU] at h1
    omega
theorem g_same_signs (n : Nat) (h3 : 3 ≤ n) (h6 : n ≤ 6) (s t : ByteArray) (hs : s.size = (cTrips n).length) (ht : t.size = (cTrips n).length) (r : List Int) (h1 : wgRun (cTab n s) n (n * (n - 1) / 2) (cStart n) (List.replicate 36 false) [] = some r) (h2 : wgRun (cTab n t) n (n * (n - 1) / 2) (cStart n) (List.replicate 36 false) [] = some r) :
    ∀ x y z, x < y → y < z → z < n → cAt n s x y z = cAt n t x y z := by
  have hsa : ∀ i, i < n → (cStart n).getD i 0 = (i : Int) := by
    intro i hi
    unfold cStart
    rw [List.getD_eq_getElem?_getD, List.getElem?_map, List.getElem?_range hi]; rfl
  have hr := g_rel0 n
  have hno : ∀ {P : Prop}, (false = true) → P := fun h => absurd h (by decide)
  obtain ⟨d', Ds', k1, k2, k3⟩ := g_run_tell n h3 h6 s t hs ht (n * (n - 1) / 2) (fun _ _ => false) (List.replicate (n * n) false) (List.replicate 36 false) (cStart n) [] r (fun _ _ _ _ _ _ => ⟨fun _ h => hno h, fun _ h => hno h⟩) (fun _ _ _ _ _ _ => ⟨fun _ h => hno h, fun _ h => hno h⟩) (fun _ _ _ _ _ _ => ⟨fun _ h => hno h, fun _ h => hno h⟩) (fun _ _ _ _ _ _ h => hno h)
    ⟨List.length_replicate, fun x y _ _ => by rw [Bool.and_false, List.getD_eq_getElem?_getD, List.getElem?_replicate]; split <;> rfl⟩ List.length_replicate hr.2.2.2 (g_start n)
    (fun i j hi hj he => by rw [hsa i hi, hsa j hj] at he; exact Int.ofNat.inj he)
    (fun i j a b hij hj ha hb => by
      rw [hsa i (by omega)] at ha
      rw [hsa j hj] at hb
      have e1 : i = a := Int.ofNat.inj ha
      have e2 : j = b := Int.ofNat.inj hb
      exact ⟨fun _ => rfl, fun hh => by omega⟩) h1 h2
  have hz : (List.replicate (n * n) false).count true = 0 := by rw [List.count_replicate]; rfl
  have hall := k_all_done n h3 h6 d' Ds' k2 (by rw [k3, hz, Nat.zero_add])
  intro x y z hxy hyz hz'
  have hT := k1 x y z hxy hyz hz' (hall x z (Nat.lt_trans hxy hyz) hz')
  rcases c_at_pm n s x y z with a | a <;> rcases c_at_pm n t x y z with b | b <;> rw [a, b] at hT ⊢
  · exact absurd (hT.mp (by decide)) (by decide)
  · exact absurd (hT.mpr (by decide)) (by decide)

end Go.Proofs.Ythibphndihjcaaa.P
