/- Plain law of impl.cellsOf: what each level's cells bear, for whatever a cell bears that exchanges change one by one. Conditions: a wiring. -/
import Derived.Test.YthibphndihjcaaaCWiring
import Derived.Test.YthibphndihjcaaaOCells
import Derived.Laws.BitsLemmas
namespace Go.Proofs.Ythibphndihjcaaa.P
open Go.RowKit Go.Proofs.YthibphndihjcaaaW.PrintWords Go.Proofs.YthibphndihjcaaaW.PrintLast
set_option linter.unusedVariables false
set_option linter.unusedSimpArgs false

theorem cc_run {ws : List Int} {p : Int} {w : List Int} (h : cRun ws (p :: w) = true) : cOk ws p ∧ cRun (cSwap ws p.toNat) w = true := by
  simp only [cRun] at h
  by_cases hk : cOk ws p
  · rw [if_pos hk] at h; exact ⟨hk, h⟩
  · rw [if_neg hk] at h; exact absurd h (by simp)
theorem cc_getD_mem {ws : List Int} {i : Nat} (h : i < ws.length) : ws.getD i 0 ∈ ws := by
  rw [List.getD_eq_getElem?_getD, List.getElem?_eq_getElem h]; exact List.getElem_mem h
theorem cc_in {ws : List Int} {p : Nat} {P : Int → Prop} (h : p + 1 < ws.length) (hb : ∀ y ∈ ws, P y) : ∀ y ∈ cSwap ws p, P y := by
  intro y hy
  unfold cSwap at hy
  rcases List.mem_or_eq_of_mem_set hy with hy | hy
  · rcases List.mem_or_eq_of_mem_set hy with hy | hy
    · exact hb y hy
    · rw [hy]; exact hb _ (cc_getD_mem h)
  · rw [hy]; exact hb _ (cc_getD_mem (by omega))
theorem cc_start (n : Nat) : ∀ y ∈ cStart n, 0 ≤ y ∧ y < (n : Int) := by
  intro y hy
  unfold cStart at hy
  obtain ⟨a, ha, rfl⟩ := List.mem_map.1 hy
  have := List.mem_range.1 ha
  omega
/-- One level's cells, from the open one on. -/
def cRowG {γ : Type} (new : Int → Int → γ) (add : γ → Int → γ) (L : Nat) : List Int → List Int → γ → List γ
  | _, [], c => [c]
  | ws, p :: w, c => if p.toNat + 1 = L then c :: cRowG new add L (cSwap ws p.toNat) w (new (ws.getD p.toNat 0) (ws.getD (p.toNat + 1) 0)) else if p.toNat = L then cRowG new add L (cSwap ws p.toNat) w (add c (ws.getD (p.toNat + 1) 0)) else if p.toNat + 2 = L then cRowG new add L (cSwap ws p.toNat) w (add c (ws.getD p.toNat 0)) else cRowG new add L (cSwap ws p.toNat) w c
def ceOk (B : Int) (c : CE) : Prop := 0 ≤ c.f0 ∧ c.f0 ≤ B ∧ ∃ f : Nat, c.f1 = (f : Int) ∧ f < 64
theorem ceBit_nat (b : Nat) (h : b < 6) : ceBit (b : Int) = ((2 ^ b : Nat) : Int) := by
  have : ∀ b ∈ List.range 6, ceBit ((b : Nat) : Int) = ((2 ^ b : Nat) : Int) := by decide +kernel
  exact this b (List.mem_range.2 h)
theorem ce_or (a b : Nat) (ha : a < 64) (hb : b < 64) : Go.bits .or .i64 (a : Int) (b : Int) = ((a ||| b : Nat) : Int) ∧ a ||| b < 64 :=
  ⟨(bits_nat .i64 63 (by decide) (fun n h0 h1 => by rw [IntKind.wrap_i64]; omega) a b (by omega) (by omega)).2, Nat.or_lt_two_pow (n := 6) ha hb⟩
theorem ce_pow (b : Nat) (h : b < 6) : 2 ^ b < 64 := Nat.pow_lt_pow_right (a := 2) (by omega) h
theorem ceAdd_f1 {c : CE} {f b : Nat} (hc : c.f1 = (f : Int)) (hf : f < 64) (hb : b < 6) : (ceAdd c (b : Int)).f1 = ((f ||| 2 ^ b : Nat) : Int) ∧ f ||| 2 ^ b < 64 := by
  have h := ce_or f (2 ^ b) hf (ce_pow b hb)
  refine ⟨?_, h.2⟩
  show Go.bits .or .i64 c.f1 (ceBit (b : Int)) = _
  rw [hc, ceBit_nat b hb]; exact h.1
theorem ceNew_f1 (c : CE) (k : Int) {a b : Nat} (ha : a < 6) (hb : b < 6) : (ceNew c k (a : Int) (b : Int)).f1 = ((2 ^ a ||| 2 ^ b : Nat) : Int) ∧ 2 ^ a ||| 2 ^ b < 64 := by
  have h := ce_or (2 ^ a) (2 ^ b) (ce_pow a ha) (ce_pow b hb)
  refine ⟨?_, h.2⟩
  show Go.bits .or .i64 (ceBit (a : Int)) (ceBit (b : Int)) = _
  rw [ceBit_nat a ha, ceBit_nat b hb]; exact h.1
theorem ceAdd_ok {B : Int} {c : CE} {b : Int} (h : ceOk B c) (hB : B < 1000000) (h0 : 0 ≤ b) (h6 : b < 6) : ceOk (B + 1) (ceAdd c b) ∧ (ceAdd c b).f0 = c.f0 + 1 := by
  obtain ⟨h1, h2, f, h3, h4⟩ := h
  obtain ⟨q, rfl⟩ : ∃ q : Nat, b = (q : Int) := ⟨b.toNat, by omega⟩
  have e : (ceAdd c (q : Int)).f0 = c.f0 + 1 := by show wrap64 (c.f0 + 1) = _; unfold wrap64; omega
  have h5 := ceAdd_f1 h3 h4 (show q < 6 by omega)
  exact ⟨⟨by omega, by omega, _, h5.1, h5.2⟩, e⟩
theorem ceNew_ok {B : Int} {c : CE} {k a b : Int} (hB : 2 ≤ B) (a0 : 0 ≤ a) (a6 : a < 6) (h0 : 0 ≤ b) (h6 : b < 6) : ceOk B (ceNew c k a b) := by
  obtain ⟨q, rfl⟩ : ∃ q : Nat, b = (q : Int) := ⟨b.toNat, by omega⟩
  obtain ⟨p, rfl⟩ : ∃ p : Nat, a = (p : Int) := ⟨a.toNat, by omega⟩
  have h5 := ceNew_f1 c k (show p < 6 by omega) (show q < 6 by omega)
  exact ⟨by show (0 : Int) ≤ 2; omega, hB, _, h5.1, h5.2⟩
theorem ceOk_up {B B' : Int} {c : CE} (h : ceOk B c) (hB : B ≤ B') : ceOk B' c := ⟨h.1, Int.le_trans h.2.1 hB, h.2.2⟩
theorem ceSetN_length (l : List CE) (j : Int) (f : CE → CE) : (ceSetN l j f).length = l.length := by simp [ceSetN]
theorem ceSetN_getD (l : List CE) (j : Int) (f : CE → CE) (L : Nat) (h : j.toNat < l.length) : (ceSetN l j f).getD L ceZ = if j.toNat = L then f (l.getD L ceZ) else l.getD L ceZ := by
  unfold ceSetN
  rw [List.getD_eq_getElem?_getD]
  by_cases he : j.toNat = L
  · subst he; rw [if_pos rfl, List.getElem?_set_self h]; rfl
  · rw [if_neg he, List.getElem?_set_ne he, ← List.getD_eq_getElem?_getD]
section
variable {γ : Type} {new : Int → Int → γ} {add : γ → Int → γ} {g : CE → γ}
/-- The open cells behind one exchange. -/
theorem ceNow_getD (now : List CE) (k p a b : Int) (q L : Nat) (hq : q + 2 < now.length) (hp : p.toNat = q) : (ceNow now k p ((q + 1 : Nat) : Int) ((q + 2 : Nat) : Int) a b).getD L ceZ = if q + 1 = L then ceNew (ceMark (now.getD L ceZ) k) k a b else if q = L then ceAdd (now.getD L ceZ) b else if q + 2 = L then ceAdd (now.getD L ceZ) a else now.getD L ceZ := by
  unfold ceNow
  have e1 : ((q + 1 : Nat) : Int).toNat = q + 1 := Int.toNat_natCast _
  have e2 : ((q + 2 : Nat) : Int).toNat = q + 2 := Int.toNat_natCast _
  rw [ceSetN_getD _ _ _ _ (by simp only [ceSetN_length, e2]; omega), ceSetN_getD _ _ _ _ (by simp only [ceSetN_length, hp]; omega), ceSetN_getD _ _ _ _ (by simp only [ceSetN_length, e1]; omega), ceSetN_getD _ _ _ _ (by simp only [e1]; omega), e1, e2, hp]
  by_cases h1 : q + 1 = L
  · rw [if_pos h1, if_pos h1, if_pos h1, if_neg (by omega), if_neg (by omega)]
  · rw [if_neg h1, if_neg h1, if_neg h1]
    by_cases h2 : q = L
    · rw [if_pos h2, if_pos h2, if_neg (by omega)]
    · rw [if_neg h2, if_neg h2]
theorem ceNow_length (now : List CE) (k p j q a b : Int) : (ceNow now k p j q a b).length = now.length := by simp [ceNow, ceSetN_length]
theorem ceOut_getD (now : List CE) (out : List (List CE)) (k : Int) (q L : Nat) (hq : q + 1 < out.length) (hn : q + 1 < now.length) : (ceOut now out k ((q + 1 : Nat) : Int)).getD L [] = if q + 1 = L then out.getD L [] ++ [ceMark (now.getD L ceZ) k] else out.getD L [] := by
  unfold ceOut
  have e1 : ((q + 1 : Nat) : Int).toNat = q + 1 := Int.toNat_natCast _
  rw [ceSetN_getD _ _ _ _ (by rw [e1]; exact hn), e1, if_pos rfl, List.getD_eq_getElem?_getD]
  by_cases he : q + 1 = L
  · subst he; rw [if_pos rfl, List.getElem?_set_self hq]; rfl
  · rw [if_neg he, List.getElem?_set_ne he, ← List.getD_eq_getElem?_getD]
theorem ceOut_length (now : List CE) (out : List (List CE)) (k j : Int) : (ceOut now out k j).length = out.length := by simp [ceOut]
theorem ce_run (hm : ∀ c k, g (ceMark c k) = g c) (hn : ∀ c k a b, 0 ≤ a → a < 6 → 0 ≤ b → b < 6 → g (ceNew c k a b) = new a b) (ha : ∀ c b B, ceOk B c → B < 1000000 → 0 ≤ b → b < 6 → g (ceAdd c b) = add (g c) b) (L m : Nat) (hL : L < m) (hm10 : m ≤ 10) :
    ∀ (w ws : List Int) (k : Int) (now : List CE) (out : List (List CE)) (B : Int), ws.length + 1 = m → now.length = m → out.length = m → (∀ y ∈ ws, 0 ≤ y ∧ y < 6) → cRun ws w = true → (∀ i, i < m → ceOk B (now.getD i ceZ)) → 2 ≤ B → B + w.length < 1000000 →
    (ceRun ws w k now out).1.length = m ∧ (ceRun ws w k now out).2.length = m ∧ ((ceRun ws w k now out).2.getD L []).map g ++ [g ((ceRun ws w k now out).1.getD L ceZ)] = (out.getD L []).map g ++ cRowG new add L ws w (g (now.getD L ceZ)) := by
  intro w
  induction w with
  | nil => intro ws k now out B h1 h2 h3 h4 h5 h6 h7 h8; exact ⟨h2, h3, rfl⟩
  | cons p w ih =>
    intro ws k now out B h1 h2 h3 h4 h5 h6 h7 h8
    obtain ⟨⟨p0, p1, p2⟩, hr⟩ := cc_run h5
    obtain ⟨q, hq⟩ : ∃ q : Nat, p = (q : Int) := ⟨p.toNat, by omega⟩
    have hpq : p.toNat = q := by omega
    have hql : q + 1 < ws.length := by omega
    have e1 : wrap64 (p + 1) = ((q + 1 : Nat) : Int) := by unfold wrap64; omega
    have e2 : wrap64 (p + 2) = ((q + 2 : Nat) : Int) := by unfold wrap64; omega
    have ea : rd ws p = ws.getD q 0 := by rw [hq]; exact c_rd ws q
    have eb : rd ws ((q + 1 : Nat) : Int) = ws.getD (q + 1) 0 := c_rd ws (q + 1)
    have es : ceSw ws p = cSwap ws q := by unfold ceSw cSwap; rw [e1, ea, eb, hpq, Int.toNat_natCast]
    obtain ⟨a, hA⟩ : ∃ z, ws.getD q 0 = z := ⟨_, rfl⟩
    obtain ⟨b, hB⟩ : ∃ z, ws.getD (q + 1) 0 = z := ⟨_, rfl⟩
    have ba : 0 ≤ a ∧ a < 6 := by rw [← hA]; exact h4 _ (cc_getD_mem (by omega))
    have bb : 0 ≤ b ∧ b < 6 := by rw [← hB]; exact h4 _ (cc_getD_mem hql)
    have hlen : ((p :: w).length : Int) = w.length + 1 := by simp
    rw [hlen] at h8
    rw [hpq] at hr
    have hstep : ceRun ws (p :: w) k now out = ceRun (cSwap ws q) w (wrap64 (k + 1)) (ceNow now k p ((q + 1 : Nat) : Int) ((q + 2 : Nat) : Int) a b) (ceOut now out k ((q + 1 : Nat) : Int)) := by
      simp only [ceRun]; rw [e1, e2, ea, eb, es, hA, hB]
    rw [hstep]
    have hok : ∀ i, i < m → ceOk (B + 1) ((ceNow now k p ((q + 1 : Nat) : Int) ((q + 2 : Nat) : Int) a b).getD i ceZ) := by
      intro i hi
      rw [ceNow_getD now k p a b q i (by omega) hpq]
      split
      · exact ceNew_ok (by omega) ba.1 ba.2 bb.1 bb.2
      · split
        · exact (ceAdd_ok (h6 i hi) (by omega) bb.1 bb.2).1
        · split
          · exact (ceAdd_ok (h6 i hi) (by omega) ba.1 ba.2).1
          · exact ceOk_up (h6 i hi) (by omega)
    have IH := ih (cSwap ws q) (wrap64 (k + 1)) (ceNow now k p ((q + 1 : Nat) : Int) ((q + 2 : Nat) : Int) a b) (ceOut now out k ((q + 1 : Nat) : Int)) (B + 1) (by rw [cSwap_length]; exact h1) (by rw [ceNow_length]; exact h2) (by rw [ceOut_length]; exact h3) (cc_in hql h4) hr hok (by omega) (by omega)
    refine ⟨IH.1, IH.2.1, IH.2.2.trans ?_⟩
    rw [ceNow_getD now k p a b q L (by omega) hpq, ceOut_getD now out k q L (by omega) (by omega)]
    simp only [cRowG, hpq, hA, hB]
    by_cases c1 : q + 1 = L
    · rw [if_pos c1, if_pos c1, if_pos c1, hn _ _ _ _ ba.1 ba.2 bb.1 bb.2, List.map_append, List.append_assoc]
      simp only [List.map_cons, List.map_nil, hm, List.singleton_append]
    · rw [if_neg c1, if_neg c1, if_neg c1]
      by_cases c2 : q = L
      · rw [if_pos c2, if_pos c2, ha _ _ B (h6 L hL) (by omega) bb.1 bb.2]
      · rw [if_neg c2, if_neg c2]
        by_cases c3 : q + 2 = L
        · rw [if_pos c3, if_pos c3, ha _ _ B (h6 L hL) (by omega) ba.1 ba.2]
        · rw [if_neg c3, if_neg c3]
/-- The sides of the cell that a level begins with. -/
def cB (n L : Nat) : Int := (if 0 < L then 1 else 0) + (if L < n then 1 else 0)
/-- .. and the wires along it. -/
def cA (n L : Nat) : Nat := (if 0 < L then 2 ^ (L - 1) else 0) ||| (if L < n then 2 ^ L else 0)
theorem ceI2_all : ∀ n ∈ List.range 7, ∀ L ∈ List.range 7, L ≤ n → (ceI2 (n : Int) (L : Int)).f0 = cB n L ∧ (ceI2 (n : Int) (L : Int)).f1 = (cA n L : Int) ∧ cA n L < 64 := by decide +kernel
theorem ce_all (hm : ∀ c k, g (ceMark c k) = g c) (hn : ∀ c k a b, 0 ≤ a → a < 6 → 0 ≤ b → b < 6 → g (ceNew c k a b) = new a b) (ha : ∀ c b B, ceOk B c → B < 1000000 → 0 ≤ b → b < 6 → g (ceAdd c b) = add (g c) b) {n : Int} {w : List Int} (h : cIsW n w = true) :
    (ceAll n (cStart n.toNat) w).length = n.toNat + 1 ∧ ∀ L, L ≤ n.toNat → ((ceAll n (cStart n.toNat) w).getD L []).map g = cRowG new add L (cStart n.toNat) w (g (ceI2 n (L : Int))) := by
  obtain ⟨h3, h6, _, hr⟩ := c_isW_spec h
  have hwl := c_isW_len h
  obtain ⟨N, rfl⟩ : ∃ N : Nat, n = (N : Int) := ⟨n.toNat, by omega⟩
  simp only [Int.toNat_natCast] at hr ⊢
  have hN : ∀ i, i < N + 1 → (ceN0 (N : Int) (N + 1) (N + 1)).getD i ceZ = ceI2 (N : Int) (i : Int) := by
    intro i hi
    unfold ceN0
    rw [List.getD_eq_getElem?_getD, List.getElem?_map, List.getElem?_range hi]; simp [hi]
  have hok : ∀ i, i < N + 1 → ceOk 2 ((ceN0 (N : Int) (N + 1) (N + 1)).getD i ceZ) := by
    intro i hi
    rw [hN i hi]
    obtain ⟨e1, e2, e3⟩ := ceI2_all N (List.mem_range.2 (by omega)) i (List.mem_range.2 (by omega)) (by omega)
    refine ⟨?_, ?_, _, e2, e3⟩
    · rw [e1]; unfold cB; split <;> split <;> omega
    · rw [e1]; unfold cB; split <;> split <;> omega
  have hrun := fun L (hL : L < N + 1) => ce_run (new := new) (add := add) (g := g) hm hn ha L (N + 1) hL (by omega) w (cStart N) 0 (ceN0 (N : Int) (N + 1) (N + 1)) (List.replicate (N + 1) []) 2 (by rw [cStart_length]) (by rw [ceN0_length]) (by simp) (fun y hy => by have := cc_start N y hy; omega) hr hok (by omega) (by omega)
  have hl := hrun 0 (by omega)
  unfold ceAll
  simp only [Int.toNat_natCast]
  refine ⟨by unfold ceEnd; rw [List.length_map, List.length_range]; exact hl.2.1, fun L hL => ?_⟩
  have h2 := (hrun L (by omega)).2.2
  unfold ceEnd
  rw [List.getD_eq_getElem?_getD, List.getElem?_map, List.getElem?_range (by rw [hl.2.1]; omega)]
  simp only [Option.map_some, Option.getD_some, if_pos (show L < N + 1 by omega), List.map_append, List.map_cons, List.map_nil, hm]
  rw [h2, hN L (by omega), List.getD_eq_getElem?_getD, List.getElem?_replicate, if_pos (by omega)]
  rfl
end
theorem c_cellsOf {n : Int} {w : List Int} (h : cIsW n w = true) : Ev (fun k => impl_cellsOf.f k n w) (ceAll n (cStart n.toNat) w) := by
  obtain ⟨h3, h6, _, hr⟩ := c_isW_spec h
  have hwl := c_isW_len h
  unfold impl_cellsOf.f
  simp only [if_pos (show 3 ≤ n ∧ n ≤ 6 ∧ w.length < 1000000 from ⟨h3, h6, by omega⟩)]
  refine Ev.bind (c_upTo n h3 h6) ?_
  have hrun : Ev (fun k => impl_run.f k n w) true := by
    unfold impl_run.f
    refine Ev.bind (c_upTo n h3 h6) ?_
    have := c_run_l n w (by omega) h3 h6 w.length 0 (cStart n.toNat) (by omega) (by rw [cStart_length]; omega)
    rw [List.drop_zero, hr] at this
    simpa using this
  refine Ev.bind hrun ?_
  exact ⟨0, fun k _ => if_pos ⟨rfl, by rw [cStart_length]; omega, fun y hy => (cc_start _ y hy).1⟩⟩

end Go.Proofs.Ythibphndihjcaaa.P
