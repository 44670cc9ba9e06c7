/- WiringOfSigns: the reference and the program tell the same. Conditions: a text of at most 2^40 letters. -/
import Derived.Test.YthibphndihjcaaaCWm
import Derived.Test.YthibphndihjcaaaCWiring
import Derived.Test.YthibphndihjcaaaP38
namespace Go.Proofs.Ythibphndihjcaaa.P
open Go.RowKit Go.Proofs.YthibphndihjcaaaW.PrintWords Go.Proofs.YthibphndihjcaaaW.PrintLast
set_option linter.unusedVariables false
set_option linter.unusedSimpArgs false

theorem g_inj {N x y a b : Nat} (hy : y < N) (hb : b < N) (h : x * N + y = a * N + b) : x = a ∧ y = b := by
  have hN : 0 < N := Nat.lt_of_le_of_lt (Nat.zero_le _) hy
  have e1 : (x * N + y) / N = x := by rw [Nat.add_comm, Nat.add_mul_div_right _ _ hN, Nat.div_eq_of_lt hy, Nat.zero_add]
  have e2 : (a * N + b) / N = a := by rw [Nat.add_comm, Nat.add_mul_div_right _ _ hN, Nat.div_eq_of_lt hb, Nat.zero_add]
  have e : x = a := by rw [← e1, ← e2, h]
  refine ⟨e, ?_⟩
  rw [e] at h
  exact Nat.add_left_cancel h
theorem g_set (n N : Nat) (hN : n ≤ N) (L : List Bool) (d : Nat → Nat → Bool) (hl : L.length = N * N) (hd : ∀ x y, x < y → y < n → L.getD (x * N + y) false = d x y) (a b : Nat) (ha : a < n) (hb : b < n) : ∀ x y, x < y → y < n → (L.set (a * N + b) true).getD (x * N + y) false = gSet d a b x y := by
  intro x y hxy hy
  have hlt : a * N + b < L.length := by rw [hl]; exact g_ix_lt (Nat.lt_of_lt_of_le ha hN) (Nat.lt_of_lt_of_le hb hN)
  unfold gSet
  by_cases h : x = a ∧ y = b
  · rw [if_pos h, h.1, h.2, List.getD_eq_getElem?_getD, List.getElem?_set_self hlt]; rfl
  · rw [if_neg h, List.getD_eq_getElem?_getD, List.getElem?_set_ne (fun he => h (g_inj (Nat.lt_of_lt_of_le hy hN) (Nat.lt_of_lt_of_le hb hN) he.symm)), ← List.getD_eq_getElem?_getD]
    exact hd x y hxy hy
theorem g_l1_core (n e e1 em A va vb : Int) (s : ByteArray) (Ds : List Bool) (ws o : List Int) (g0 : e ≥ 0) (g1 : 0 ≤ e) (g2 : e < (ws.length : Int)) (he1 : wrap64 (e + 1) = e1) (g3 : 0 ≤ e1) (g4 : e1 < (ws.length : Int)) (ha : rd ws e = va) (hb : rd ws e1 = vb) (hm : wrap64 (e - 1) = em) (k : Nat) :
    spec_WiringOfSigns.l1 (k + 1) Ds ws o A e n s = if va < vb then ((spec_l13Waits.f k n s Ds va vb).bind fun t => if t = true then spec_WiringOfSigns.l1 k Ds ws o A em n s else spec_WiringOfSigns.l1 k Ds ws o e em n s) else spec_WiringOfSigns.l1 k Ds ws o A em n s := by
  rw [spec_WiringOfSigns.l1, if_pos g0, if_pos g1, if_pos g2, he1, if_pos g3, if_pos g4, ha, hb, hm]
theorem g_l1_none (n : Int) (s : ByteArray) (Ds : List Bool) (ws o : List Int) (k : Nat) : spec_WiringOfSigns.l1 (k + 1) Ds ws o (-1) (-1) n s = some ([], false) := by
  rw [spec_WiringOfSigns.l1, if_neg (by decide), if_pos (by decide)]
theorem g_l1_some (n q q1 va vb P : Int) (t : Bool) (s : ByteArray) (Ds : List Bool) (ws ws' o : List Int) (g0 : ¬ q < 0) (g1 : 0 ≤ q) (g2 : q < (ws.length : Int)) (hq1 : wrap64 (q + 1) = q1) (g3 : 0 ≤ q1) (g4 : q1 < (ws.length : Int)) (ha : rd ws q = va) (hb : rd ws q1 = vb) (hP : wrap64 (wrap64 (va * n) + vb) = P) (g5 : 0 ≤ P) (g6 : P < (Ds.length : Int)) (hsw : spec_l12Swap.f ws q = some (t, ws')) (ho : o.length < 17592186044416) (k : Nat) :
    spec_WiringOfSigns.l1 (k + 1) Ds ws o q (-1) n s = spec_WiringOfSigns.l0 k (Ds.set P.toNat true) ws' (o ++ [q]) n s := by
  rw [spec_WiringOfSigns.l1, if_neg (show ¬ ((-1 : Int) ≥ 0) by decide), if_neg g0, if_pos g1, if_pos g2, hq1, if_pos g3, if_pos g4, ha, hb, hP, if_pos g5, if_pos g6, hsw, Option.bind_some, if_pos ho]
/-- The wires are numbers below n. -/
def gWs (n : Nat) (ws : List Int) : Prop := ws.length = n ∧ ∀ p, p < n → ∃ v : Nat, v < n ∧ ws.getD p 0 = (v : Int)
/-- Both tables of marks tell the same pairs. -/
def gRel (n : Nat) (d : Nat → Nat → Bool) (Ds D : List Bool) : Prop := Ds.length = n * n ∧ D.length = 36 ∧ (∀ x y, x < y → y < n → Ds.getD (x * n + y) false = d x y) ∧ (∀ x y, x < y → y < n → D.getD (x * 6 + y) false = d x y)
def gAt (l : List Int) (D : List Bool) (n : Nat) (ws : List Int) (e : Nat) (A : Int) : Int := match (List.range e).find? (wgOk l D n ws) with | some q => (q : Int) | none => A
theorem g_at_succ (l : List Int) (D : List Bool) (n : Nat) (ws : List Int) (e : Nat) (A : Int) : gAt l D n ws (e + 1) A = gAt l D n ws e (if wgOk l D n ws e = true then (e : Int) else A) := by
  unfold gAt
  rw [List.range_succ, List.find?_append]
  cases h : (List.range e).find? (wgOk l D n ws) with
  | some q => rfl
  | none =>
    by_cases he : wgOk l D n ws e = true
    · rw [List.find?_cons_of_pos he, if_pos he]; rfl
    · rw [List.find?_cons_of_neg he, if_neg he]; rfl
theorem g_l1 (n : Nat) (h3 : 3 ≤ n) (h6 : n ≤ 6) (s : ByteArray) (hs : s.size = (cTrips n).length) (d : Nat → Nat → Bool) (hI : gInv n s d) (Ds D : List Bool) (hR : gRel n d Ds D) (ws : List Int) (hw : gWs n ws) (o : List Int) (r : List Int × Bool) : ∀ (e : Nat), e + 1 ≤ n → ∀ A : Int,
    Ev (fun k => spec_WiringOfSigns.l1 k Ds ws o (gAt (cTab n s) D n ws e A) (-1) (n : Int) s) r → Ev (fun k => spec_WiringOfSigns.l1 k Ds ws o A ((e : Int) - 1) (n : Int) s) r := by
  obtain ⟨hl, hv⟩ := hw
  obtain ⟨r1, r2, r3, r4⟩ := hR
  intro e
  induction e with
  | zero => intro _ A h; exact h
  | succ e ih =>
    intro he A h
    rw [g_at_succ] at h
    have hk := ih (Nat.le_of_succ_le he) _ h
    clear ih h
    obtain ⟨va, ha, hva⟩ := hv e (Nat.lt_of_succ_lt he)
    obtain ⟨vb, hb, hvb⟩ := hv (e + 1) he
    have e0 : ((e + 1 : Nat) : Int) - 1 = (e : Int) := by clear hva hvb hk; omega
    have hsmall : e < 4611686018427387904 := by clear hva hvb hk r1 hs; omega
    have em : wrap64 ((e : Int) - 1) = (e : Int) - 1 := c_wid _ (by clear hva hvb hk r1 hs; omega) (by clear hva hvb hk r1 hs; omega)
    have CO := g_l1_core (n : Int) (e : Int) ((e + 1 : Nat) : Int) ((e : Int) - 1) A (va : Int) (vb : Int) s Ds ws o (Int.natCast_nonneg _) (Int.natCast_nonneg _) (by rw [hl]; exact Int.ofNat_lt.mpr (Nat.lt_of_succ_lt he)) (c_w1 e hsmall) (Int.natCast_nonneg _) (by rw [hl]; exact Int.ofNat_lt.mpr he) (by rw [c_rd]; exact hva) (by rw [c_rd]; exact hvb) em
    rw [e0]
    refine Ev.step (fun k => CO k) ?_
    have hok : wgOk (cTab n s) D n ws e = (decide ((va : Int) < (vb : Int)) && mayAll (cTab n s) D (va : Int) (vb : Int) n) := by unfold wgOk; rw [hva, hvb]
    by_cases hc : (va : Int) < (vb : Int)
    · simp only [if_pos hc]
      have hc' : va < vb := Int.ofNat_lt.mp hc
      rw [decide_eq_true hc, Bool.true_and, g_mayAll n h3 h6 s hs D d hI r4 va vb hc' hb] at hok
      refine Ev.bind (g_specWaits n h3 h6 s hs Ds r1 d r3 va vb hc' hb) ?_
      cases hany : (List.range n).any (gX n s d va vb) with
      | true =>
        rw [hany] at hok
        rw [if_neg (by rw [hok]; decide)] at hk
        simp only [if_true]; exact hk
      | false =>
        rw [hany] at hok
        rw [if_pos (by rw [hok]; rfl)] at hk
        simp only [Bool.false_eq_true, if_false]; exact hk
    · simp only [if_neg hc]
      rw [decide_eq_false hc, Bool.false_and] at hok
      rw [if_neg (by rw [hok]; decide)] at hk
      exact hk
theorem g_ws_swap (n : Nat) (ws : List Int) (p : Nat) (hp : p + 1 < n) (hw : gWs n ws) : gWs n (wgSwap ws p) := by
  obtain ⟨hl, hv⟩ := hw
  refine ⟨by unfold wgSwap; rw [List.length_set, List.length_set]; exact hl, fun q hq => ?_⟩
  unfold wgSwap
  rw [List.getD_eq_getElem?_getD]
  by_cases h1 : q = p + 1
  · rw [h1, List.getElem?_set_self (by rw [List.length_set, hl]; exact hp)]
    exact hv p (Nat.lt_of_succ_lt hp)
  · rw [List.getElem?_set_ne (fun h => h1 h.symm)]
    by_cases h2 : q = p
    · rw [h2, List.getElem?_set_self (by rw [hl]; exact Nat.lt_of_succ_lt hp)]
      exact hv (p + 1) hp
    · rw [List.getElem?_set_ne (fun h => h2 h.symm), ← List.getD_eq_getElem?_getD]
      exact hv q hq
theorem g_l0 (n : Nat) (h3 : 3 ≤ n) (h6 : n ≤ 6) (s : ByteArray) (hs : s.size = (cTrips n).length) : ∀ (m : Nat) (d : Nat → Nat → Bool) (hI : gInv n s d) (Ds D : List Bool) (hR : gRel n d Ds D) (ws : List Int) (hw : gWs n ws) (o : List Int), ((m + o.length : Nat) : Int) = (n : Int) * ((n : Int) - 1) / 2 → m + o.length < 100 →
    Ev (fun k => spec_WiringOfSigns.l0 k Ds ws o (n : Int) s) (wgRes (wgRun (cTab n s) n m ws D o)) := by
  have hP := c_pairs (n : Int) (by omega) (by omega)
  intro m
  induction m with
  | zero =>
    intro d hI Ds D hR ws hw o hm h100
    refine Ev.step (f := fun _ => some (o, true)) (fun k => ?_) (Ev.now _)
    rw [spec_WiringOfSigns.l0, hP, ← hm, if_neg (show ¬ ((o.length : Int) < ((0 + o.length : Nat) : Int)) by rw [Nat.zero_add]; exact Int.lt_irrefl _)]
  | succ m ih =>
    intro d hI Ds D hR ws hw o hm h100
    have hn2 : wrap64 ((n : Int) - 2) = ((n - 1 : Nat) : Int) - 1 := by
      clear hP hm
      rw [c_wid ((n : Int) - 2) (by omega) (by omega)]; omega
    have hlt : (o.length : Int) < ((m + 1 + o.length : Nat) : Int) := by clear hP hm; omega
    refine Ev.step (f := fun k => spec_WiringOfSigns.l1 k Ds ws o (-1) (((n - 1 : Nat) : Int) - 1) (n : Int) s) (fun k => ?_) ?_
    · rw [spec_WiringOfSigns.l0, hP, ← hm, if_pos hlt, hn2]
    refine g_l1 n h3 h6 s hs d hI Ds D hR ws hw o _ (n - 1) (by omega) (-1) ?_
    unfold wgRun
    have hgA : gAt (cTab n s) D n ws (n - 1) (-1) = match wgFind (cTab n s) D n ws with | some q => (q : Int) | none => -1 := rfl
    rw [hgA]
    cases hf : wgFind (cTab n s) D n ws with
    | none => exact Ev.step (fun k => g_l1_none (n : Int) s Ds ws o k) (Ev.now _)
    | some p =>
      have hp1 : p < n - 1 := List.mem_range.mp (List.mem_of_find?_eq_some hf)
      have hok := List.find?_some hf
      have hpn : p + 1 < n := by clear hP hm; omega
      have hsw := g_ws_swap n ws p hpn hw
      obtain ⟨hl, hv⟩ := hw
      obtain ⟨r1, r2, r3, r4⟩ := hR
      obtain ⟨va, ha, hva⟩ := hv p (Nat.lt_of_succ_lt hpn)
      obtain ⟨vb, hb, hvb⟩ := hv (p + 1) hpn
      have hok2 : (decide ((va : Int) < (vb : Int)) && mayAll (cTab n s) D (va : Int) (vb : Int) n) = true := by rw [← hva, ← hvb]; exact hok
      have hc : va < vb := by
        have := (Bool.and_eq_true_iff.mp hok2).1
        exact Int.ofNat_lt.mp (of_decide_eq_true this)
      have hany : (List.range n).any (gX n s d va vb) = false := by
        have := (Bool.and_eq_true_iff.mp hok2).2
        rw [g_mayAll n h3 h6 s hs D d hI r4 va vb hc hb] at this
        cases hq : (List.range n).any (gX n s d va vb) with
        | false => rfl
        | true => rw [hq] at this; exact absurd this (by decide)
      have hcO : cOk ws (p : Int) := by
        unfold cOk
        rw [Int.toNat_natCast, hva, hvb]
        refine ⟨Int.natCast_nonneg _, ?_, Int.le_of_lt (Int.ofNat_lt.mpr hc)⟩
        rw [hl]; clear hP hm hva hvb; omega
      have hswf : spec_l12Swap.f ws (p : Int) = some (true, wgSwap ws p) := by
        rw [c_swap ws (p : Int) (by rw [hl]; clear hP hm hva hvb; omega) (by rw [hl]; clear hP hm hva hvb; omega), if_pos hcO, Int.toNat_natCast]; rfl
      have CO := g_l1_some (n : Int) (p : Int) ((p + 1 : Nat) : Int) (va : Int) (vb : Int) ((va * n + vb : Nat) : Int) true s Ds ws (wgSwap ws p) o (Int.not_lt.mpr (Int.natCast_nonneg _)) (Int.natCast_nonneg _) (by rw [hl]; exact Int.ofNat_lt.mpr (Nat.lt_of_succ_lt hpn)) (c_w1 p (by clear hP hm hva hvb; omega)) (Int.natCast_nonneg _) (by rw [hl]; exact Int.ofNat_lt.mpr hpn) (by rw [c_rd]; exact hva) (by rw [c_rd]; exact hvb) (g_ix_w va n vb (Nat.lt_trans (g_ix_small h6 ha hb) (by decide))) (Int.natCast_nonneg _) (by rw [r1]; exact Int.ofNat_lt.mpr (g_ix_lt ha hb)) hswf (by clear hP hm hva hvb; omega)
      rw [Int.toNat_natCast] at CO
      refine Ev.step (fun k => CO k) ?_
      have hdone : wgDone D ws p = D.set (va * 6 + vb) true := by unfold wgDone; rw [hva, hvb, Int.toNat_natCast, Int.toNat_natCast]
      have := ih (gSet d va vb) (g_inv_set n s d hI va vb hc hb hany) (Ds.set (va * n + vb) true) (D.set (va * 6 + vb) true) ⟨by rw [List.length_set]; exact r1, by rw [List.length_set]; exact r2, g_set n n (Nat.le_refl _) Ds d r1 r3 va vb ha hb, g_set n 6 h6 D d r2 r4 va vb ha hb⟩ (wgSwap ws p) hsw (o ++ [(p : Int)]) (by rw [← hm, List.length_append]; congr 1; simp only [List.length_cons, List.length_nil]; omega) (by rw [List.length_append]; simp only [List.length_cons, List.length_nil]; omega)
      rw [← hdone] at this
      exact this
end Go.Proofs.Ythibphndihjcaaa.P
namespace Go.Proofs.Ythibphndihjcaaa.P
open Go.RowKit Go.Proofs.YthibphndihjcaaaW.PrintWords Go.Proofs.YthibphndihjcaaaW.PrintLast
set_option linter.unusedVariables false
set_option linter.unusedSimpArgs false

theorem g_run_len (l : List Int) (n : Nat) : ∀ (m : Nat) (ws : List Int) (D : List Bool) (o r : List Int), wgRun l n m ws D o = some r → r.length = m + o.length := by
  intro m
  induction m with
  | zero => intro ws D o r h; unfold wgRun at h; cases h; rw [Nat.zero_add]
  | succ m ih =>
    intro ws D o r h
    unfold wgRun at h
    cases hf : wgFind l D n ws with
    | none => rw [hf] at h; cases h
    | some p =>
      rw [hf] at h
      have := ih _ _ _ _ h
      rw [this, List.length_append, List.length_singleton]; omega
/-- What WiringOfSigns hands back. -/
def cWos (n : Int) (s : ByteArray) : List Int × Bool := if cSigns n s = true then (if n > 6 then ([], false) else wgRes (wgRun (cTab n.toNat s) n.toNat (n.toNat * (n.toNat - 1) / 2) (cStart n.toNat) (List.replicate 36 false) [])) else ([], false)
theorem g_m_lt (n : Nat) (h3 : 3 ≤ n) (h6 : n ≤ 6) : n * (n - 1) / 2 < 100 ∧ ((n * (n - 1) / 2 : Nat) : Int) = (n : Int) * ((n : Int) - 1) / 2 := by
  have : n = 3 ∨ n = 4 ∨ n = 5 ∨ n = 6 := by omega
  rcases this with rfl | rfl | rfl | rfl <;> exact ⟨by decide +kernel, by decide +kernel⟩
theorem cWos_len (n : Int) (s : ByteArray) : (cWos n s).1.length < 100 := by
  unfold cWos
  by_cases h : cSigns n s = true
  · rw [if_pos h]
    obtain ⟨m, rfl, h3, h7, hs⟩ := c_signs_open n s h
    by_cases h6 : (m : Int) > 6
    · rw [if_pos h6]; exact (by decide : (0 : Nat) < 100)
    · rw [if_neg h6, wgRes_1, Int.toNat_natCast]
      cases hr : wgRun (cTab m s) m (m * (m - 1) / 2) (cStart m) (List.replicate 36 false) [] with
      | none => exact (by decide : (0 : Nat) < 100)
      | some r =>
        have := g_run_len _ _ _ _ _ _ _ hr
        show r.length < 100
        rw [this]; exact (g_m_lt m h3 (by omega)).1
  · rw [if_neg h]; exact (by decide : (0 : Nat) < 100)
theorem g_start (n : Nat) : gWs n (cStart n) := by
  refine ⟨cStart_length n, fun p hp => ⟨p, hp, ?_⟩⟩
  unfold cStart
  rw [List.getD_eq_getElem?_getD, List.getElem?_map, List.getElem?_range hp]; rfl
theorem g_rel0 (n : Nat) : gRel n (fun _ _ => false) (List.replicate (n * n) false) (List.replicate 36 false) := by
  have hr : ∀ m i : Nat, (List.replicate m false).getD i false = false := by
    intro m i
    rw [List.getD_eq_getElem?_getD, List.getElem?_replicate]; split <;> rfl
  exact ⟨List.length_replicate, List.length_replicate, fun _ _ _ _ => hr _ _, fun _ _ _ _ => hr _ _⟩
theorem g_nn (n : Nat) (h6 : n ≤ 6) : wrap64 ((n : Int) * (n : Int)) = ((n * n : Nat) : Int) ∧ n * n ≤ 281474976710656 := by
  have : n = 0 ∨ n = 1 ∨ n = 2 ∨ n = 3 ∨ n = 4 ∨ n = 5 ∨ n = 6 := by omega
  rcases this with rfl | rfl | rfl | rfl | rfl | rfl | rfl <;> exact ⟨by decide +kernel, by decide +kernel⟩
theorem cS_Wos (n : Int) (s : ByteArray) (hs : s.size ≤ 1099511627776) : Ev (fun k => spec_WiringOfSigns.f k n s) (cWos n s) := by
  unfold spec_WiringOfSigns.f cWos
  refine Ev.bind (c_specSigns n s hs) ?_
  by_cases h : cSigns n s = true
  · rw [if_pos h]
    simp only [if_pos h]
    obtain ⟨m, rfl, h3, h7, hsz⟩ := c_signs_open n s h
    by_cases h6 : (m : Int) > 6
    · rw [if_pos h6, decide_eq_true h6]
      refine Ev.step (f := fun _ => some ([], false)) (fun k => ?_) (Ev.now _)
      rw [spec_WiringOfSigns.j0, if_pos rfl]
    · rw [if_neg h6, decide_eq_false h6, Int.toNat_natCast]
      have h6' : m ≤ 6 := by omega
      obtain ⟨e1, e2⟩ := g_nn m h6'
      refine Ev.step (f := fun k => (spec_l12Start.f k (m : Int)).bind fun t => spec_WiringOfSigns.l0 k (List.replicate (m * m) false) t [] (m : Int) s) (fun k => ?_) ?_
      · rw [spec_WiringOfSigns.j0, if_neg (by decide), e1, if_pos (Int.natCast_nonneg _), Int.toNat_natCast, if_pos e2]
      · have hst := c_start (m : Int) (by omega) (by omega)
        rw [Int.toNat_natCast] at hst
        refine Ev.bind hst ?_
        obtain ⟨q1, q2⟩ := g_m_lt m h3 h6'
        exact g_l0 m h3 h6' s hsz (m * (m - 1) / 2) (fun _ _ => false) (fun x y z _ _ _ => ⟨fun _ hh => absurd hh Bool.false_ne_true, fun _ hh => absurd hh Bool.false_ne_true⟩) _ _ (g_rel0 m) _ (g_start m) [] q2 q1
  · rw [if_neg h]
    simp only [if_neg h]
    refine Ev.step (f := fun _ => some ([], false)) (fun k => ?_) (Ev.now _)
    rw [spec_WiringOfSigns.j0, if_pos rfl]
theorem cI_Wos (n : Int) (s : ByteArray) (hs : s.size ≤ 1099511627776) : Ev (fun k => impl_WiringOfSigns.f k n s) (cWos n s) := by
  unfold impl_WiringOfSigns.f cWos
  refine Ev.bind (c_implSigns n s hs) ?_
  by_cases h : cSigns n s = true
  · rw [if_pos h]
    simp only [if_pos h]
    obtain ⟨m, rfl, h3, h7, hsz⟩ := c_signs_open n s h
    by_cases h6 : (m : Int) > 6
    · rw [if_pos h6]
      simp only [if_pos h6]
      exact Ev.now _
    · rw [if_neg h6, Int.toNat_natCast]
      simp only [if_neg h6]
      have h6' : m ≤ 6 := by omega
      refine Ev.bind (c_tableOf m h3 h7 s hsz) ?_
      have hn := c_tab_n m h3 h7 s
      have hl : (cTab m s).length = 344 := by unfold cTab; rw [c_fold_len, c_chi0_len]
      unfold impl_chi_wiring.f
      rw [hn, Int.toNat_natCast, hl]
      refine Ev.congr (fun k => if_pos ⟨Nat.le_refl _, rfl, h3, h6'⟩) ?_
      have hst := c_upTo (m : Int) (by omega) (by omega)
      rw [Int.toNat_natCast] at hst
      refine Ev.bind hst ?_
      have hok : (cStart m).length = m ∧ ∀ x ∈ cStart m, 0 ≤ x ∧ x < 6 := by
        refine ⟨cStart_length m, fun x hx => ?_⟩
        unfold cStart at hx
        obtain ⟨i, hi, rfl⟩ := List.mem_map.mp hx
        have := List.mem_range.mp hi
        omega
      simp only [if_pos hok]
      exact Ev.now _
  · rw [if_neg h]
    simp only [if_neg h]
    exact Ev.now _

end Go.Proofs.Ythibphndihjcaaa.P
