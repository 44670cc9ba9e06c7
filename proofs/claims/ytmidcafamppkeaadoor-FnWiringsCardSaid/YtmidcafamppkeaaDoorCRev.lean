/- Wirings as runs: the last wires are turned round; a list turned round or moved on by one is a wiring again; the pairs tell the list. Conditions: none. -/
import Derived.Test.YtmidcafamppkeaaDoorCWFrom
import Derived.Test.YtmidcafamppkeaaDoorCSwaps
namespace Go.Proofs.YtmidcafamppkeaaDoor.P
open Go.RowKit Go.Proofs.YtmidcafamppkeaaDoorW.PrintWords Go.Proofs.YtmidcafamppkeaaDoorW.PrintLast
set_option linter.unusedVariables false
set_option linter.unusedSimpArgs false

theorem v_run_app : ∀ (u v ws : List Int), cRun ws (u ++ v) = (cRun ws u && cRun (cAfter ws u) v)
  | [], v, ws => by simp [cRun, cAfter]
  | p :: u, v, ws => by
    rw [List.cons_append]
    simp only [cRun, cAfter]
    by_cases h : cOk ws p
    · rw [if_pos h, if_pos h]; exact v_run_app u v _
    · rw [if_neg h, if_neg h]; rfl
theorem v_after_app : ∀ (u v ws : List Int), cAfter ws (u ++ v) = cAfter (cAfter ws u) v
  | [], v, ws => rfl
  | p :: u, v, ws => by rw [List.cons_append]; simp only [cAfter]; exact v_after_app u v _
theorem v_ok {ws : List Int} {p : Int} (h : cOk ws p) : ∃ (l1 : List Int) (a b : Int) (l2 : List Int), ws = l1 ++ a :: b :: l2 ∧ p = (l1.length : Int) ∧ a ≤ b := by
  obtain ⟨h0, h1, h2⟩ := h
  obtain ⟨l1, a, b, l2, rfl, hl⟩ := cSplit ws p.toNat (by omega)
  refine ⟨l1, a, b, l2, rfl, by omega, ?_⟩
  rw [← hl] at h2
  simpa [List.getD_eq_getElem?_getD, List.getElem?_append_right] using h2
theorem v_ok_mk (l1 l2 : List Int) (a b : Int) (h : a ≤ b) : cOk (l1 ++ a :: b :: l2) (l1.length : Int) := by
  refine ⟨by omega, by rw [List.length_append, List.length_cons, List.length_cons]; omega, ?_⟩
  rw [Int.toNat_natCast]
  simpa [List.getD_eq_getElem?_getD, List.getElem?_append_right] using h
theorem v_step (l1 l2 : List Int) (a b : Int) (w : List Int) (h : a ≤ b) : cRun (l1 ++ a :: b :: l2) ((l1.length : Int) :: w) = cRun (l1 ++ b :: a :: l2) w := by
  simp only [cRun]
  rw [if_pos (v_ok_mk l1 l2 a b h), Int.toNat_natCast, cSwap_app]
theorem v_after_step (l1 l2 : List Int) (a b : Int) (w : List Int) : cAfter (l1 ++ a :: b :: l2) ((l1.length : Int) :: w) = cAfter (l1 ++ b :: a :: l2) w := by
  simp only [cAfter]
  rw [Int.toNat_natCast, cSwap_app]
/-! ### turned round -/
theorem v_rev : ∀ (w ws : List Int), cRun ws w = true → cRun (cAfter ws w).reverse (w.map fun p => (ws.length : Int) - 2 - p).reverse = true ∧ cAfter (cAfter ws w).reverse (w.map fun p => (ws.length : Int) - 2 - p).reverse = ws.reverse
  | [], ws, _ => ⟨rfl, rfl⟩
  | p :: w, ws, h => by
    obtain ⟨hk, _⟩ := c_cRun h
    obtain ⟨l1, a, b, l2, rfl, rfl, hab⟩ := v_ok hk
    rw [v_step _ _ _ _ _ hab] at h
    obtain ⟨i1, i2⟩ := v_rev w (l1 ++ b :: a :: l2) h
    rw [v_after_step]
    have hl : (l1 ++ a :: b :: l2).length = (l1 ++ b :: a :: l2).length := by simp
    rw [hl, List.map_cons, List.reverse_cons, v_run_app, v_after_app, i1, i2, Bool.true_and]
    have hr : (l1 ++ b :: a :: l2).reverse = l2.reverse ++ a :: b :: l1.reverse := by simp
    have hp : ((l1 ++ b :: a :: l2).length : Int) - 2 - (l1.length : Int) = (l2.reverse.length : Int) := by
      simp only [List.length_append, List.length_cons, List.length_reverse]; omega
    rw [hr, hp, v_step _ _ _ _ _ hab, v_after_step]
    exact ⟨rfl, by simp [cAfter]⟩
/-! ### the last wires -/
def ivs : List Int → Nat
  | [] => 0
  | a :: l => l.countP (fun b => decide (b < a)) + ivs l
theorem ivs_swap (a b : Int) (h : a < b) (l2 : List Int) : ∀ l1 : List Int, ivs (l1 ++ b :: a :: l2) = ivs (l1 ++ a :: b :: l2) + 1
  | [] => by
    simp only [List.nil_append, ivs, List.countP_cons]
    have h1 : decide (a < b) = true := decide_eq_true h
    have h2 : decide (b < a) = false := decide_eq_false (by omega)
    rw [h1, h2]
    simp
    omega
  | c :: l1 => by
    have ih := ivs_swap a b h l2 l1
    simp only [List.cons_append, ivs]
    rw [ih]
    have : (l1 ++ b :: a :: l2).countP (fun x => decide (x < c)) = (l1 ++ a :: b :: l2).countP (fun x => decide (x < c)) := by
      refine List.Perm.countP_eq _ (List.Perm.append_left l1 (List.Perm.swap a b l2))
    rw [this]; omega
def tri : Nat → Nat
  | 0 => 0
  | k + 1 => k + tri k
theorem ivs_le : ∀ l : List Int, ivs l ≤ tri l.length ∧ (ivs l = tri l.length → l.Pairwise (fun a b => b < a))
  | [] => ⟨Nat.le_refl _, fun _ => List.Pairwise.nil⟩
  | a :: l => by
    obtain ⟨i1, i2⟩ := ivs_le l
    have hc := List.countP_le_length (p := fun b => decide (b < a)) (l := l)
    simp only [ivs, List.length_cons, tri]
    refine ⟨by omega, fun h => ?_⟩
    have h1 : l.countP (fun b => decide (b < a)) = l.length := by omega
    rw [List.countP_eq_length] at h1
    exact List.pairwise_cons.mpr ⟨fun b hb => of_decide_eq_true (h1 b hb), i2 (by omega)⟩
theorem ivs_run : ∀ (w ws : List Int), ws.Nodup → cRun ws w = true → ivs (cAfter ws w) = ivs ws + w.length ∧ (cAfter ws w).Perm ws
  | [], ws, _, _ => ⟨rfl, List.Perm.refl _⟩
  | p :: w, ws, hd, h => by
    obtain ⟨hk, _⟩ := c_cRun h
    obtain ⟨l1, a, b, l2, rfl, rfl, hab⟩ := v_ok hk
    rw [v_step _ _ _ _ _ hab] at h
    have hp : (l1 ++ b :: a :: l2).Perm (l1 ++ a :: b :: l2) := List.Perm.append_left l1 (List.Perm.swap a b l2)
    have hne : a ≠ b := by
      intro e
      subst e
      have := (List.nodup_append.mp hd).2.1
      simp at this
    obtain ⟨i1, i2⟩ := ivs_run w _ (hp.nodup_iff.mpr hd) h
    rw [v_after_step, i1, ivs_swap a b (by omega) l2 l1]
    exact ⟨by rw [List.length_cons]; omega, i2.trans hp⟩
theorem tri_n : ∀ n ∈ [3, 4, 5, 6], tri n = n * (n - 1) / 2 ∧ ivs (cStart n) = 0 ∧ (cStart n).reverse.Pairwise (fun a b => b < a) := by decide +kernel
theorem v_last {n : Int} {w : List Int} (h : cIsW n w = true) : cAfter (cStart n.toNat) w = (cStart n.toNat).reverse := by
  obtain ⟨h3, h6, hl, hr⟩ := c_isW_spec h
  obtain ⟨m, rfl⟩ : ∃ m : Nat, n = (m : Int) := ⟨n.toNat, by omega⟩
  rw [Int.toNat_natCast] at hr ⊢
  obtain ⟨t1, t2, t3⟩ := tri_n m (by simp; omega)
  obtain ⟨i1, i2⟩ := ivs_run w _ (cStart_nodup m) hr
  have hlen : (cAfter (cStart m) w).length = m := by rw [cAfter_length, cStart_length]
  have hw : w.length = m * (m - 1) / 2 := by
    have : m = 3 ∨ m = 4 ∨ m = 5 ∨ m = 6 := by omega
    rcases this with rfl | rfl | rfl | rfl <;> omega
  have hp := (ivs_le (cAfter (cStart m) w)).2 (by rw [i1, t2, hlen, t1, hw, Nat.zero_add])
  exact (i2.trans (List.reverse_perm _).symm).eq_of_pairwise (fun a b _ _ h1 h2 => by omega) hp t3
/-- Turned round it is a wiring. -/
theorem v_flip {n : Int} {w : List Int} (h : cIsW n w = true) : cIsW n (w.map fun p => n - 2 - p).reverse = true := by
  obtain ⟨h3, h6, hl, hr⟩ := c_isW_spec h
  obtain ⟨i1, _⟩ := v_rev w (cStart n.toNat) hr
  rw [v_last h, List.reverse_reverse] at i1
  have e : ((cStart n.toNat).length : Int) = n := by rw [cStart_length]; omega
  rw [e] at i1
  unfold cIsW
  rw [i1, Bool.and_true]
  exact decide_eq_true ⟨h3, h6, by rw [List.length_reverse, List.length_map]; exact hl⟩
/-! ### moved on by one -/
def sg (p x : Int) : Int := if x = p then p + 1 else if x = p + 1 then p else x
theorem sg_le (p a b : Int) (h : a ≤ b) (hn : ¬ (a = p ∧ b = p + 1)) : sg p a ≤ sg p b := by
  unfold sg
  split <;> split <;> (try split) <;> (try split) <;> omega
theorem v_turn (p : Int) : ∀ (w ws : List Int), ws.Pairwise (fun a b => ¬ (a = p ∧ b = p + 1)) → cRun ws w = true → cRun (ws.map (sg p)) w = true ∧ cAfter (ws.map (sg p)) w = (cAfter ws w).map (sg p)
  | [], ws, _, _ => ⟨rfl, rfl⟩
  | q :: w, ws, hp, h => by
    obtain ⟨hk, _⟩ := c_cRun h
    obtain ⟨l1, a, b, l2, rfl, rfl, hab⟩ := v_ok hk
    rw [v_step _ _ _ _ _ hab] at h
    obtain ⟨p1, p2, p3⟩ := List.pairwise_append.mp hp
    obtain ⟨q1, q2⟩ := List.pairwise_cons.mp p2
    obtain ⟨r1, r2⟩ := List.pairwise_cons.mp q2
    have hn := q1 b List.mem_cons_self
    have hp2 : (l1 ++ b :: a :: l2).Pairwise (fun a b => ¬ (a = p ∧ b = p + 1)) := by
      refine List.pairwise_append.mpr ⟨p1, List.pairwise_cons.mpr ⟨fun x hx => ?_, List.pairwise_cons.mpr ⟨fun x hx => q1 x (List.mem_cons_of_mem _ hx), r2⟩⟩, fun x hx y hy => p3 x hx y ?_⟩
      · rcases List.mem_cons.mp hx with rfl | hx
        · omega
        · exact r1 x hx
      · rcases List.mem_cons.mp hy with rfl | hy
        · exact List.mem_cons_of_mem _ List.mem_cons_self
        · rcases List.mem_cons.mp hy with rfl | hy
          · exact List.mem_cons_self
          · exact List.mem_cons_of_mem _ (List.mem_cons_of_mem _ hy)
    obtain ⟨i1, i2⟩ := v_turn p w _ hp2 h
    rw [v_after_step, ← i2]
    simp only [List.map_append, List.map_cons] at i1 ⊢
    have hl : (l1.length : Int) = ((l1.map (sg p)).length : Int) := by rw [List.length_map]
    rw [hl, v_step _ _ _ _ _ (sg_le p a b hab hn), v_after_step]
    exact ⟨i1, rfl⟩
theorem v_turn_all : ∀ n ∈ [3, 4, 5, 6], ∀ p ∈ List.range (n - 1), (cSwap (cStart n) p).map (sg (p : Nat)) = cStart n ∧ (cSwap (cStart n) p).Pairwise (fun a b => ¬ (a = ((p : Nat) : Int) ∧ b = ((p : Nat) : Int) + 1)) ∧ cOk ((cStart n).reverse.map (sg (p : Nat))) ((n : Int) - 2 - (p : Nat)) := by decide +kernel
theorem v_moved {n p : Int} {w : List Int} (h : cIsW n (p :: w) = true) : cIsW n (w ++ [n - 2 - p]) = true := by
  have hlast := v_last h
  obtain ⟨h3, h6, hl, hr⟩ := c_isW_spec h
  obtain ⟨m, rfl⟩ : ∃ m : Nat, n = (m : Int) := ⟨n.toNat, by omega⟩
  rw [Int.toNat_natCast] at hr hlast
  obtain ⟨⟨k0, k1, k2⟩, hr2⟩ := c_cRun hr
  rw [cStart_length] at k1
  obtain ⟨q, rfl⟩ : ∃ q : Nat, p = (q : Int) := ⟨p.toNat, by omega⟩
  obtain ⟨t1, t2, t3⟩ := v_turn_all m (by simp; omega) q (List.mem_range.mpr (by omega))
  rw [Int.toNat_natCast] at hr2
  have hl2 : cAfter (cSwap (cStart m) q) w = (cStart m).reverse := by
    simp only [cAfter, Int.toNat_natCast] at hlast
    exact hlast
  obtain ⟨i1, i2⟩ := v_turn (q : Int) w _ t2 hr2
  rw [t1] at i1 i2
  rw [hl2] at i2
  unfold cIsW
  rw [Int.toNat_natCast, v_run_app, i1, i2, Bool.true_and]
  have : cRun ((cStart m).reverse.map (sg (q : Int))) [(m : Int) - 2 - (q : Int)] = true := by
    simp only [cRun]; rw [if_pos t3]
  rw [this, Bool.and_true]
  exact decide_eq_true ⟨h3, h6, by rw [List.length_append, List.length_singleton]; rw [List.length_cons] at hl; exact hl⟩
/-! ### the pairs -/
theorem v_idx (a : Int) (l2 : List Int) : ∀ (l1 : List Int) (i : Nat), a ∉ l1 → cIdx a (l1 ++ a :: l2) i = ((i + l1.length : Nat) : Int)
  | [], i, _ => by simp [cIdx]
  | c :: l1, i, h => by
    have hc : ¬ c = a := fun e => h (by rw [e]; exact List.mem_cons_self)
    rw [List.cons_append]
    simp only [cIdx]
    rw [if_neg hc, v_idx a l2 l1 (i + 1) (fun hm => h (List.mem_cons_of_mem _ hm)), List.length_cons]
    congr 1; omega
theorem v_from : ∀ (w ws acc : List Int) (n : Int), (ws.length : Int) = n → ws.Nodup → cRun ws w = true → cWF n (cSwaps ws w) ws acc = (acc ++ w, true)
  | [], ws, acc, n, _, _, _ => by simp [cSwaps, cWF]
  | p :: w, ws, acc, n, hl, hd, h => by
    obtain ⟨hk, _⟩ := c_cRun h
    obtain ⟨l1, a, b, l2, rfl, rfl, hab⟩ := v_ok hk
    rw [v_step _ _ _ _ _ hab] at h
    have hp : (l1 ++ b :: a :: l2).Perm (l1 ++ a :: b :: l2) := List.Perm.append_left l1 (List.Perm.swap a b l2)
    have hne : a ≠ b := by
      intro e
      subst e
      have := (List.nodup_append.mp hd).2.1
      simp at this
    have hna : a ∉ l1 := fun hm => (List.nodup_append.mp hd).2.2 a hm a List.mem_cons_self rfl
    have hix : cIdx a (l1 ++ a :: b :: l2) 0 = (l1.length : Int) := by rw [v_idx a (b :: l2) l1 0 hna, Nat.zero_add]
    have hA : (l1 ++ a :: b :: l2).getD l1.length 0 = a := by simp [List.getD_eq_getElem?_getD, List.getElem?_append_right]
    have hB : (l1 ++ a :: b :: l2).getD (l1.length + 1) 0 = b := by simp [List.getD_eq_getElem?_getD, List.getElem?_append_right]
    have hn : (l1.length : Int) + 2 ≤ n := by rw [← hl, List.length_append, List.length_cons, List.length_cons]; omega
    simp only [cSwaps, Int.toNat_natCast, hA, hB, cWF]
    have e0 : ([a, b] : List Int).getD 0 0 = a := rfl
    have e1 : ([a, b] : List Int).getD 1 0 = b := rfl
    rw [e0, e1, if_pos ⟨rfl, by omega⟩, hix, if_neg (by omega), Int.toNat_natCast, hB, if_pos rfl, cSwap_app]
    rw [v_from w (l1 ++ b :: a :: l2) (acc ++ [(l1.length : Int)]) n (by rw [← hl]; simp) (hp.nodup_iff.mpr hd) h, List.append_assoc]
    rfl
theorem v_back : ∀ (rows : List (List Int)) (ws acc x : List Int) (n : Int), (ws.length : Int) = n → cWF n rows ws acc = (x, true) → ∃ w, x = acc ++ w ∧ cRun ws w = true ∧ cSwaps ws w = rows
  | [], ws, acc, x, n, _, h => by
    simp only [cWF, Prod.mk.injEq] at h
    exact ⟨[], by rw [List.append_nil]; exact h.1.symm, rfl, rfl⟩
  | r :: rows, ws, acc, x, n, hl, h => by
    simp only [cWF] at h
    by_cases c1 : r.length = 2 ∧ r.getD 0 0 < r.getD 1 0
    case neg => rw [if_neg c1] at h; simp at h
    rw [if_pos c1] at h
    by_cases c2 : cIdx (r.getD 0 0) ws 0 < 0 ∨ cIdx (r.getD 0 0) ws 0 + 1 ≥ n
    case pos => rw [if_pos c2] at h; simp at h
    rw [if_neg c2] at h
    by_cases c3 : ws.getD ((cIdx (r.getD 0 0) ws 0).toNat + 1) 0 = r.getD 1 0
    case neg => rw [if_neg c3] at h; simp at h
    rw [if_pos c3] at h
    obtain ⟨q, hq⟩ : ∃ q : Nat, cIdx (r.getD 0 0) ws 0 = (q : Int) := ⟨(cIdx (r.getD 0 0) ws 0).toNat, by omega⟩
    have hs := (cIdx_spec (r.getD 0 0) ws 0).resolve_left (by omega)
    obtain ⟨p, e1, e2, e3⟩ := hs
    rw [hq] at e1 c2 c3 h
    have epq : p = q := by omega
    subst epq
    rw [Int.toNat_natCast] at c3 h
    obtain ⟨w, h1, h2, h3⟩ := v_back rows (cSwap ws p) (acc ++ [(p : Int)]) x n (by rw [cSwap_length]; exact hl) h
    have hok : cOk ws (p : Int) := ⟨by omega, by omega, by rw [Int.toNat_natCast, e3, c3]; omega⟩
    refine ⟨(p : Int) :: w, by rw [h1, List.append_assoc]; rfl, ?_, ?_⟩
    · simp only [cRun]; rw [if_pos hok, Int.toNat_natCast]; exact h2
    · simp only [cSwaps]
      rw [Int.toNat_natCast, e3, c3, h3]
      have hr : r = [r.getD 0 0, r.getD 1 0] := by
        obtain ⟨hr2, _⟩ := c1
        match r, hr2 with
        | [x0, x1], _ => rfl
      rw [← hr]
theorem v_ok_swaps {n : Int} {rows : List (List Int)} {x : List Int} (h : cWFrom n rows = (x, true)) : cIsW n x = true ∧ cSwaps (cStart n.toNat) x = rows := by
  unfold cWFrom at h
  by_cases c : (3 ≤ n ∧ n ≤ 6) ∧ (rows.length : Int) = n * (n - 1) / 2
  case neg => rw [if_neg c] at h; simp at h
  rw [if_pos c] at h
  obtain ⟨w, h1, h2, h3⟩ := v_back rows (cStart n.toNat) [] x n (by rw [cStart_length]; omega) h
  rw [List.nil_append] at h1
  subst h1
  refine ⟨?_, h3⟩
  unfold cIsW
  rw [h2, Bool.and_true]
  have : x.length = rows.length := by rw [← h3, cSwaps_length]
  exact decide_eq_true ⟨c.1.1, c.1.2, by rw [this]; exact c.2⟩
theorem v_swaps_from {n : Int} {w : List Int} (h : cIsW n w = true) : cWFrom n (cSwaps (cStart n.toNat) w) = (w, true) := by
  obtain ⟨h3, h6, hl, hr⟩ := c_isW_spec h
  unfold cWFrom
  rw [if_pos ⟨⟨h3, h6⟩, by rw [cSwaps_length]; exact hl⟩]
  have := v_from w (cStart n.toNat) [] n (by rw [cStart_length]; omega) (cStart_nodup _) hr
  rw [List.nil_append] at this
  exact this

end Go.Proofs.YtmidcafamppkeaaDoor.P
