/- CountCommuting: what is known of the wires is what the reference counts anew. Conditions: signs of at most six elements. -/
import Derived.Test.YthibphndihjcaaaCWos
import Derived.Test.YthibphndihjcaaaOCount
import Derived.Test.YthibphndihjcaaaP42
namespace Go.Proofs.Ythibphndihjcaaa.P
open Go.RowKit Go.Proofs.YthibphndihjcaaaW.PrintWords Go.Proofs.YthibphndihjcaaaW.PrintLast
set_option linter.unusedVariables false
set_option linter.unusedSimpArgs false

def kBp : Nat → Nat
  | 0 => 0
  | m + 1 => 5 * kBp m + 1
theorem k_core (n e e1 va vb P : Int) (s : ByteArray) (Ds : List Bool) (ws : List Int) (out : Int) (left : Bool) (h0 : wrap64 (e + 1) = e1) (h1 : e1 < n) (g1 : 0 ≤ e) (g2 : e < (ws.length : Int)) (g3 : 0 ≤ e1) (g4 : e1 < (ws.length : Int)) (ha : rd ws e = va) (hb : rd ws e1 = vb) (hP : wrap64 (wrap64 (va * n) + vb) = P) (g5 : 0 ≤ P) (g6 : P < (Ds.length : Int)) (k : Nat) :
    spec_l14Count.l0 (k + 1) Ds ws out left e n s = if va > vb then spec_l14Count.l0 k Ds ws out left e1 n s else (spec_l13Waits.f k n s Ds va vb).bind fun t => if t = true then spec_l14Count.l0 k Ds ws out true e1 n s else (spec_l14Count.f k n s (Ds.set P.toNat true) ((ws.set e.toNat vb).set e1.toNat va)).bind fun r => spec_l14Count.l0 k (r.2.1.set P.toNat false) ((r.2.2.set e.toNat va).set e1.toNat vb) (wrap64 (out + r.1)) true e1 n s := by
  rw [spec_l14Count.l0]
  simp only [h0, ha, hb, hP, if_pos h1, if_pos g1, if_pos g2, if_pos g3, if_pos g4, if_pos g5, if_pos g6]
theorem k_cnt_le : ∀ (a b : List Bool), a.length = b.length → (∀ i, a.getD i false = true → b.getD i false = true) → a.count true ≤ b.count true
  | [], [], _, _ => Nat.le_refl _
  | x :: a, y :: b, hl, h => by
    have ih := k_cnt_le a b (by simpa using hl) (fun i hi => by simpa using h (i + 1) (by simpa using hi))
    have h0 := h 0
    simp only [List.getD_cons_zero] at h0
    rw [List.count_cons, List.count_cons]
    cases x <;> cases y <;> simp_all <;> omega
theorem k_cnt_set : ∀ (a : List Bool) (i : Nat), i < a.length → a.getD i false = false → (a.set i true).count true = a.count true + 1
  | x :: a, 0, _, h => by
    simp only [List.getD_cons_zero] at h
    rw [h, List.set_cons_zero, List.count_cons, List.count_cons]
    simp
  | x :: a, i + 1, hl, h => by
    rw [List.getD_cons_succ] at h
    rw [List.set_cons_succ, List.count_cons, List.count_cons, k_cnt_set a i (by simpa using hl) h]
    omega
/-- The reference's marks, whole. -/
def kCD (n : Nat) (d : Nat → Nat → Bool) (Ds : List Bool) : Prop := Ds.length = n * n ∧ ∀ x y, x < n → y < n → Ds.getD (x * n + y) false = (decide (x < y) && d x y)
def kU (n : Nat) : List Bool := (List.range (n * n)).map fun q => decide (q / n < q % n)
theorem k_split (n : Nat) (hn : 0 < n) (q : Nat) (hq : q < n * n) : ∃ x y, x < n ∧ y < n ∧ q = x * n + y ∧ x = q / n ∧ y = q % n :=
  ⟨q / n, q % n, Nat.div_lt_of_lt_mul hq, Nat.mod_lt _ hn, by rw [Nat.mul_comm]; exact (Nat.div_add_mod q n).symm, rfl, rfl⟩
theorem k_cnt15 (n : Nat) (h3 : 3 ≤ n) (h6 : n ≤ 6) (d : Nat → Nat → Bool) (Ds : List Bool) (h : kCD n d Ds) : Ds.count true ≤ 15 := by
  have hU : (kU n).count true ≤ 15 := by
    have : n = 3 ∨ n = 4 ∨ n = 5 ∨ n = 6 := by omega
    rcases this with rfl | rfl | rfl | rfl <;> decide +kernel
  refine Nat.le_trans (k_cnt_le Ds (kU n) (by rw [h.1, kU, List.length_map, List.length_range]) (fun i hi => ?_)) hU
  by_cases hl : i < n * n
  · obtain ⟨x, y, hx, hy, e, ex, ey⟩ := k_split n (by omega) i hl
    rw [e, h.2 x y hx hy, Bool.and_eq_true] at hi
    rw [kU, List.getD_eq_getElem?_getD, List.getElem?_map, List.getElem?_range hl]
    show decide (i / n < i % n) = true
    rw [← ex, ← ey]; exact hi.1
  · rw [List.getD_eq_getElem?_getD, List.getElem?_eq_none (by rw [h.1]; omega)] at hi
    exact absurd hi (by simp)
theorem k_uniq (n : Nat) (hn : 0 < n) (d d' : Nat → Nat → Bool) (Ds Ds' : List Bool) (h : kCD n d Ds) (h' : kCD n d' Ds') (hd : ∀ x y, x < y → y < n → d x y = d' x y) : Ds = Ds' := by
  apply List.ext_getElem?
  intro q
  by_cases hq : q < n * n
  · obtain ⟨x, y, hx, hy, e, _, _⟩ := k_split n hn q hq
    have h1 := h.2 x y hx hy
    have h2 := h'.2 x y hx hy
    rw [← e] at h1 h2
    have h3 : Ds.getD q false = Ds'.getD q false := by
      rw [h1, h2]
      by_cases hxy : x < y
      · rw [hd x y hxy hy]
      · simp [hxy]
    rw [List.getD_eq_getElem?_getD, List.getD_eq_getElem?_getD, List.getElem?_eq_getElem (by rw [h.1]; exact hq), List.getElem?_eq_getElem (by rw [h'.1]; exact hq)] at h3
    rw [List.getElem?_eq_getElem (by rw [h.1]; exact hq), List.getElem?_eq_getElem (by rw [h'.1]; exact hq)]
    simpa using h3
  · rw [List.getElem?_eq_none (by rw [h.1]; omega), List.getElem?_eq_none (by rw [h'.1]; omega)]
theorem k_cd_set (n : Nat) (d : Nat → Nat → Bool) (Ds : List Bool) (h : kCD n d Ds) (a b : Nat) (hab : a < b) (hb : b < n) : kCD n (gSet d a b) (Ds.set (a * n + b) true) := by
  refine ⟨by rw [List.length_set]; exact h.1, fun x y hx hy => ?_⟩
  have hlt : a * n + b < Ds.length := by rw [h.1]; exact g_ix_lt (Nat.lt_trans hab hb) hb
  unfold gSet
  by_cases he : x = a ∧ y = b
  · rw [if_pos he, he.1, he.2, List.getD_eq_getElem?_getD, List.getElem?_set_self hlt, decide_eq_true hab]; rfl
  · rw [if_neg he, List.getD_eq_getElem?_getD, List.getElem?_set_ne (fun hh => he (g_inj hy hb hh.symm)), ← List.getD_eq_getElem?_getD]
    exact h.2 x y hx hy
/-- The wires tell what is done. -/
def kLnk (n : Nat) (d : Nat → Nat → Bool) (ws : List Int) : Prop := ∀ i j a b : Nat, i < j → j < n → ws.getD i 0 = (a : Int) → ws.getD j 0 = (b : Int) → (a < b → d a b = false) ∧ (b < a → d b a = true)
def kInj (n : Nat) (ws : List Int) : Prop := ∀ i j, i < n → j < n → ws.getD i 0 = ws.getD j 0 → i = j
theorem k_swap_at (n : Nat) (ws : List Int) (p : Nat) (hp : p + 1 < n) (hl : ws.length = n) (q : Nat) : (wgSwap ws p).getD q 0 = ws.getD (if q = p then p + 1 else if q = p + 1 then p else q) 0 := by
  unfold wgSwap
  rw [List.getD_eq_getElem?_getD]
  by_cases h1 : q = p + 1
  · rw [h1, List.getElem?_set_self (by rw [List.length_set, hl]; exact hp), if_neg (by omega), if_pos rfl]; rfl
  · rw [List.getElem?_set_ne (fun h => h1 h.symm)]
    by_cases h2 : q = p
    · rw [h2, List.getElem?_set_self (by rw [hl]; omega), if_pos rfl]; rfl
    · rw [List.getElem?_set_ne (fun h => h2 h.symm), ← List.getD_eq_getElem?_getD, if_neg h2, if_neg h1]
theorem k_inj_swap (n : Nat) (ws : List Int) (p : Nat) (hp : p + 1 < n) (hl : ws.length = n) (h : kInj n ws) : kInj n (wgSwap ws p) := by
  intro i j hi hj he
  rw [k_swap_at n ws p hp hl, k_swap_at n ws p hp hl] at he
  have := h _ _ (by split <;> (try split) <;> omega) (by split <;> (try split) <;> omega) he
  split at this <;> split at this <;> (try split at this) <;> (try split at this) <;> omega
theorem k_lnk_swap (n : Nat) (d : Nat → Nat → Bool) (ws : List Int) (p : Nat) (hp : p + 1 < n) (hl : ws.length = n) (hI : kInj n ws) (h : kLnk n d ws) (va vb : Nat) (hva : ws.getD p 0 = (va : Int)) (hvb : ws.getD (p + 1) 0 = (vb : Int)) (hab : va < vb) : kLnk n (gSet d va vb) (wgSwap ws p) := by
  intro i j a b hij hj ha hb
  rw [k_swap_at n ws p hp hl] at ha hb
  by_cases hc : i = p ∧ j = p + 1
  · rw [if_pos hc.1, hvb] at ha
    rw [if_neg (by omega), if_pos hc.2, hva] at hb
    have e1 : vb = a := Int.ofNat.inj ha
    have e2 : va = b := Int.ofNat.inj hb
    subst e1; subst e2
    exact ⟨fun hh => by omega, fun _ => by unfold gSet; rw [if_pos ⟨rfl, rfl⟩]⟩
  · obtain ⟨i', hi'⟩ : ∃ z, (if i = p then p + 1 else if i = p + 1 then p else i) = z := ⟨_, rfl⟩
    obtain ⟨j', hj'⟩ : ∃ z, (if j = p then p + 1 else if j = p + 1 then p else j) = z := ⟨_, rfl⟩
    rw [hi'] at ha
    rw [hj'] at hb
    have hij' : i' < j' ∧ j' < n := by
      rw [← hi', ← hj']
      split <;> split <;> (try split) <;> (try split) <;> omega
    have hne : ¬ (i' = p ∧ j' = p + 1) := by
      rw [← hi', ← hj']
      split <;> split <;> (try split) <;> (try split) <;> omega
    have hh := h i' j' a b hij'.1 hij'.2 ha hb
    have k1 : ∀ x y, (x = va ∧ y = vb) → ¬ (ws.getD i' 0 = (x : Int) ∧ ws.getD j' 0 = (y : Int)) := by
      rintro x y ⟨rfl, rfl⟩ ⟨q1, q2⟩
      exact hne ⟨hI _ _ (by omega) (by omega) (q1.trans hva.symm), hI _ _ (by omega) (by omega) (q2.trans hvb.symm)⟩
    have k2 : ∀ x y, (x = va ∧ y = vb) → ¬ (ws.getD j' 0 = (x : Int) ∧ ws.getD i' 0 = (y : Int)) := by
      rintro x y ⟨rfl, rfl⟩ ⟨q1, q2⟩
      have e1 := hI _ _ (by omega) (by omega) (q1.trans hva.symm)
      have e2 := hI _ _ (by omega) (by omega) (q2.trans hvb.symm)
      omega
    unfold gSet
    exact ⟨fun hlt => by rw [if_neg (fun he => k1 a b he ⟨ha, hb⟩)]; exact hh.1 hlt, fun hlt => by rw [if_neg (fun he => k2 b a he ⟨hb, ha⟩)]; exact hh.2 hlt⟩
/-- Every pair of wires stands somewhere. -/
theorem k_has (n : Nat) (ws : List Int) (hw : gWs n ws) (hI : kInj n ws) (x : Nat) (hx : x < n) : ∃ i, i < n ∧ ws.getD i 0 = (x : Int) := by
  refine Classical.byContradiction fun hno => ?_
  have key : ∀ (m : Nat) (l : List Nat), l.Nodup → (∀ y ∈ l, y < m) → l.length ≤ m := by
    intro m
    induction m with
    | zero =>
      intro l _ h
      cases l with
      | nil => exact Nat.le_refl _
      | cons y l => have := h y (List.mem_cons_self ..); omega
    | succ m ih =>
      intro l hd h
      have h1 := ih (l.erase m) (hd.erase _) (fun y hy => by
        have h2 := (List.Nodup.mem_erase_iff hd).1 hy
        have h3 := h y h2.2
        have h4 := h2.1
        omega)
      by_cases hm : m ∈ l
      · rw [List.length_erase_of_mem hm] at h1; omega
      · rw [List.erase_of_not_mem hm] at h1; omega
  have hN : (x :: (List.range n).map fun i => (ws.getD i 0).toNat).Nodup := by
    rw [List.nodup_cons]
    refine ⟨fun hm => ?_, ?_⟩
    · obtain ⟨i, hi, he⟩ := List.mem_map.1 hm
      have hi' := List.mem_range.1 hi
      obtain ⟨v, hv, hv2⟩ := hw.2 i hi'
      rw [hv2, Int.toNat_natCast] at he
      exact hno ⟨i, hi', by rw [hv2, he]⟩
    · rw [List.Nodup, List.pairwise_map]
      refine List.Pairwise.imp_of_mem (fun {a b} ha hb hab => ?_) (List.nodup_range (n := n))
      intro he
      obtain ⟨v, hv, hv2⟩ := hw.2 a (List.mem_range.1 ha)
      obtain ⟨u, hu, hu2⟩ := hw.2 b (List.mem_range.1 hb)
      rw [hv2, hu2, Int.toNat_natCast, Int.toNat_natCast] at he
      exact hab (hI a b (List.mem_range.1 ha) (List.mem_range.1 hb) (by rw [hv2, hu2, he]))
  have := key n _ hN (fun y hy => by
    rcases List.mem_cons.1 hy with rfl | hy
    · exact hx
    · obtain ⟨i, hi, rfl⟩ := List.mem_map.1 hy
      obtain ⟨v, hv, hv2⟩ := hw.2 i (List.mem_range.1 hi)
      rw [hv2, Int.toNat_natCast]; exact hv)
  rw [List.length_cons, List.length_map, List.length_range] at this
  omega
theorem k_same (n : Nat) (d d' : Nat → Nat → Bool) (ws : List Int) (hw : gWs n ws) (hI : kInj n ws) (h : kLnk n d ws) (h' : kLnk n d' ws) : ∀ x y, x < y → y < n → d x y = d' x y := by
  intro x y hxy hy
  obtain ⟨i, hi, hix⟩ := k_has n ws hw hI x (Nat.lt_trans hxy hy)
  obtain ⟨j, hj, hjy⟩ := k_has n ws hw hI y hy
  rcases Nat.lt_trichotomy i j with hlt | heq | hgt
  · rw [(h i j x y hlt hj hix hjy).1 hxy, (h' i j x y hlt hj hix hjy).1 hxy]
  · rw [heq, hjy] at hix
    have : y = x := Int.ofNat.inj hix
    omega
  · rw [(h j i y x hgt hi hjy hix).2 hxy, (h' j i y x hgt hi hjy hix).2 hxy]
theorem k_set_back : ∀ (a : List Bool) (i : Nat), i < a.length → a.getD i false = false → (a.set i true).set i false = a
  | x :: a, 0, _, h => by
    simp only [List.getD_cons_zero] at h
    rw [h]; rfl
  | x :: a, i + 1, hl, h => by
    rw [List.getD_cons_succ] at h
    rw [List.set_cons_succ, List.set_cons_succ, k_set_back a i (by simpa using hl) h]
theorem k_swap_back (ws : List Int) (p : Nat) (hp : p + 1 < ws.length) (va vb : Int) (hva : ws.getD p 0 = va) (hvb : ws.getD (p + 1) 0 = vb) : ((((ws.set p vb).set (p + 1) va).set p va).set (p + 1) vb) = ws := by
  apply List.ext_getElem?
  intro q
  by_cases h1 : q = p + 1
  · rw [h1, List.getElem?_set_self (by simpa using hp), ← hvb, List.getD_eq_getElem?_getD, List.getElem?_eq_getElem hp]; rfl
  · rw [List.getElem?_set_ne (fun h => h1 h.symm)]
    by_cases h2 : q = p
    · rw [h2, List.getElem?_set_self (by simp only [List.length_set]; omega), ← hva, List.getD_eq_getElem?_getD, List.getElem?_eq_getElem (by omega)]; rfl
    · rw [List.getElem?_set_ne (fun h => h2 h.symm), List.getElem?_set_ne (fun h => h1 h.symm), List.getElem?_set_ne (fun h => h2 h.symm)]
/-- What is known is what the reference counts. -/
def kValid (n : Nat) (s : ByteArray) (M : KM) : Prop := ∀ ws v, kmLook M ws = some v → ∀ d Ds, gWs n ws → kInj n ws → kLnk n d ws → kCD n d Ds → Ev (fun k => spec_l14Count.f k (n : Int) s Ds ws) (v, Ds, ws)
theorem k_all (n : Nat) (h3 : 3 ≤ n) (h6 : n ≤ 6) (s : ByteArray) (hs : s.size = (cTrips n).length) : ∀ (m : Nat) (d : Nat → Nat → Bool) (Ds D : List Bool) (ws : List Int) (M : KM), 15 ≤ Ds.count true + m → gInv n s d → kCD n d Ds → D.length = 36 → (∀ x y, x < y → y < n → D.getD (x * 6 + y) false = d x y) → gWs n ws → kInj n ws → kLnk n d ws → kValid n s M → M.length + kBp (m + 1) < 1000000000000 →
    ∃ c M', Ev (fun k => cm.f k n (cTab n s) ws D M) (c, M') ∧ Ev (fun k => spec_l14Count.f k (n : Int) s Ds ws) (c, Ds, ws) ∧ kValid n s M' ∧ M'.length ≤ M.length + kBp (m + 1) := by
  intro m
  induction m using Nat.strongRecOn with
  | ind m ih =>
  intro d Ds D ws M hm hI hC hD1 hD hW hJ hL hV hB
  cases hk : kmLook M ws with
  | some v => exact ⟨v, M, Ev.step (f := fun _ => some (v, M)) (fun k => by rw [cm.f, hk]) (Ev.now _), hV ws v hk d Ds hW hJ hL hC, hV, Nat.le_add_right _ _⟩
  | none =>
    have hb5 : (n - 1) * kBp m ≤ 5 * kBp m := Nat.mul_le_mul_right _ (by omega)
    have hbs : kBp (m + 1) = 5 * kBp m + 1 := rfl
    have loop : ∀ e p, p + e = n - 1 → ∀ (M1 : KM) (out : Int) (left : Bool), kValid n s M1 → M1.length ≤ M.length + p * kBp m → ∃ c M2, Ev (fun k => cm.l k n (cTab n s) ws D M1 p out left) (c, M2 ++ [(ws, c)]) ∧ Ev (fun k => spec_l14Count.l0 k Ds ws out left (p : Int) (n : Int) s) (c, Ds, ws) ∧ kValid n s M2 ∧ M2.length ≤ M.length + (n - 1) * kBp m := by
      intro e
      induction e with
      | zero =>
        intro p hp M1 out left hV1 hl1
        obtain rfl : p = n - 1 := by omega
        refine ⟨if left = true then out else 1, M1, Ev.step (f := fun _ => some (if left = true then out else 1, M1 ++ [(ws, if left = true then out else 1)])) (fun k => ?_) (Ev.now _), Ev.step (f := fun _ => some (if left = true then out else 1, Ds, ws)) (fun k => ?_) (Ev.now _), hV1, hl1⟩
        · rw [cm.l, if_neg (Nat.lt_irrefl _), if_pos (by omega)]
        · have hw : wrap64 (((n - 1 : Nat) : Int) + 1) = (n : Int) := by rw [c_w1 (n - 1) (by omega)]; congr 1; omega
          rw [spec_l14Count.l0, hw, if_neg (Int.lt_irrefl _)]
          cases left <;> rfl
      | succ e ihe =>
        intro p hp M1 out left hV1 hl1
        have hpn : p + 1 < n := by omega
        have hpn1 : p < n - 1 := by omega
        have hstep : p * kBp m ≤ (p + 1) * kBp m := Nat.mul_le_mul_right _ (Nat.le_succ p)
        have hl := hW.1
        obtain ⟨va, ha, hva⟩ := hW.2 p (by omega)
        obtain ⟨vb, hb, hvb⟩ := hW.2 (p + 1) hpn
        have hix : va * n + vb < Ds.length := by rw [hC.1]; exact g_ix_lt ha hb
        have CO := k_core (n : Int) (p : Int) ((p + 1 : Nat) : Int) (va : Int) (vb : Int) ((va * n + vb : Nat) : Int) s Ds ws out left (c_w1 p (by omega)) (Int.ofNat_lt.mpr hpn) (Int.natCast_nonneg _) (by rw [hl]; exact Int.ofNat_lt.mpr (by omega)) (Int.natCast_nonneg _) (by rw [hl]; exact Int.ofNat_lt.mpr hpn) (by rw [c_rd]; exact hva) (by rw [c_rd]; exact hvb) (g_ix_w va n vb (Nat.lt_trans (g_ix_small h6 ha hb) (by decide))) (Int.natCast_nonneg _) (Int.ofNat_lt.mpr hix)
        simp only [Int.toNat_natCast] at CO
        by_cases hgt : (va : Int) > (vb : Int)
        · obtain ⟨c, M2, i1, i2, i3, i4⟩ := ihe (p + 1) (by omega) M1 out left hV1 (Nat.le_trans hl1 (Nat.add_le_add_left hstep _))
          refine ⟨c, M2, Ev.step (f := fun k => cm.l k n (cTab n s) ws D M1 (p + 1) out left) (fun k => ?_) i1, Ev.step (fun k => (CO k).trans (if_pos hgt)) i2, i3, i4⟩
          rw [cm.l, if_pos hpn1, hva, hvb, if_pos hgt]
        · have hlt : va < vb := by
            have h1 : va ≤ vb := Int.ofNat_le.mp (Int.not_lt.mp hgt)
            have h2 : va ≠ vb := fun he => by
              have := hJ p (p + 1) (by omega) hpn (by rw [hva, hvb, he])
              omega
            omega
          have hmay := g_mayAll n h3 h6 s hs D d hI hD va vb hlt hb
          have hwaits := g_specWaits n h3 h6 s hs Ds hC.1 d (fun x y hxy hy => by rw [hC.2 x y (Nat.lt_trans hxy hy) hy, decide_eq_true hxy, Bool.true_and]) va vb hlt hb
          cases hany : (List.range n).any (gX n s d va vb) with
          | true =>
            rw [hany] at hmay hwaits
            obtain ⟨c, M2, i1, i2, i3, i4⟩ := ihe (p + 1) (by omega) M1 out true hV1 (Nat.le_trans hl1 (Nat.add_le_add_left hstep _))
            refine ⟨c, M2, Ev.step (f := fun k => cm.l k n (cTab n s) ws D M1 (p + 1) out true) (fun k => ?_) i1, Ev.step (fun k => (CO k).trans (if_neg hgt)) (Ev.bind hwaits ?_), i3, i4⟩
            · rw [cm.l, if_pos hpn1, hva, hvb, if_neg hgt, if_neg (by rw [hmay]; decide)]
            · simp only [if_true]; exact i2
          | false =>
            rw [hany] at hmay hwaits
            have hd0 : d va vb = false := (hL p (p + 1) va vb (by omega) hpn hva hvb).1 hlt
            have hz : Ds.getD (va * n + vb) false = false := by rw [hC.2 va vb ha hb, hd0, Bool.and_false]
            have hC' := k_cd_set n d Ds hC va vb hlt hb
            have hcnt := k_cnt_set Ds (va * n + vb) hix hz
            have h15 := k_cnt15 n h3 h6 _ _ hC'
            obtain ⟨m', rfl⟩ : ∃ m', m = m' + 1 := ⟨m - 1, by omega⟩
            have hdone : wgDone D ws p = D.set (va * 6 + vb) true := by unfold wgDone; rw [hva, hvb, Int.toNat_natCast, Int.toNat_natCast]
            have hswp : wgSwap ws p = (ws.set p (vb : Int)).set (p + 1) (va : Int) := by unfold wgSwap; rw [hva, hvb]
            have hp5 : (p + 1) * kBp (m' + 1) ≤ 5 * kBp (m' + 1) := Nat.mul_le_mul_right _ (by omega)
            have hp6 : (p + 1) * kBp (m' + 1) = p * kBp (m' + 1) + kBp (m' + 1) := Nat.succ_mul _ _
            obtain ⟨c1, M3, j1, j2, j3, j4⟩ := ih m' (Nat.lt_succ_self _) (gSet d va vb) (Ds.set (va * n + vb) true) (D.set (va * 6 + vb) true) (wgSwap ws p) M1 (by omega) (g_inv_set n s d hI va vb hlt hb hany) hC' (by rw [List.length_set]; exact hD1) (g_set n 6 h6 D d hD1 hD va vb ha hb) (g_ws_swap n ws p hpn hW) (k_inj_swap n ws p hpn hl hJ) (k_lnk_swap n d ws p hpn hl hJ hL va vb hva hvb hlt) hV1 (by omega)
            obtain ⟨c, M2, i1, i2, i3, i4⟩ := ihe (p + 1) (by omega) M3 (wrap64 (out + c1)) true j3 (by omega)
            refine ⟨c, M2, Ev.step (f := fun k => (cm.f k n (cTab n s) (wgSwap ws p) (wgDone D ws p) M1).bind fun r => cm.l k n (cTab n s) ws D r.2 (p + 1) (wrap64 (out + r.1)) true) (fun k => ?_) (Ev.bind (by rw [hdone]; exact j1) i1), Ev.step (fun k => (CO k).trans (if_neg hgt)) (Ev.bind hwaits ?_), i3, i4⟩
            · rw [cm.l, if_pos hpn1, hva, hvb, if_neg hgt, if_pos (by rw [hmay]; decide)]
            · simp only [Bool.false_eq_true, if_false]
              rw [hswp] at j2
              refine Ev.bind j2 ?_
              simp only
              rw [k_set_back Ds _ hix hz, k_swap_back ws p (by omega) va vb hva hvb]
              exact i2
    obtain ⟨c, M2, i1, i2, i3, i4⟩ := loop (n - 1) 0 (by omega) M 0 false hV (by omega)
    have hspec : Ev (fun k => spec_l14Count.f k (n : Int) s Ds ws) (c, Ds, ws) := Ev.step (f := fun k => spec_l14Count.l0 k Ds ws 0 false 0 (n : Int) s) (fun k => by rw [spec_l14Count.f]) i2
    refine ⟨c, M2 ++ [(ws, c)], Ev.step (f := fun k => cm.l k n (cTab n s) ws D M 0 0 false) (fun k => by rw [cm.f, hk]) i1, hspec, ?_, ?_⟩
    · intro ws' v hv d' Ds' hW' hJ' hL' hC2
      rw [kmLook_snoc] at hv
      by_cases he : ws = ws'
      · subst he
        rw [if_pos rfl] at hv
        obtain rfl := Option.some.inj hv
        obtain rfl := k_uniq n (by omega) d d' Ds Ds' hC hC2 (k_same n d d' ws hW hJ hL hL')
        exact hspec
      · rw [if_neg he] at hv
        exact i3 ws' v hv d' Ds' hW' hJ' hL' hC2
    · rw [List.length_append, List.length_singleton]; omega

end Go.Proofs.Ythibphndihjcaaa.P
