/- Plane sets with degrees within bounds: what the program and the reference list. Conditions: order signs of at most six elements. -/
import Derived.Test.YtiimkifkakdalaaCPl
import Derived.Test.YtiimkifkakdalaaCDegs
import Derived.Test.YtiimkifkakdalaaCConn
import Derived.Test.YtiimkifkakdalaaODegs
import Derived.Test.YtiimkifkakdalaaP65
namespace Go.Proofs.Ytiimkifkakdalaa.P
open Go.RowKit Go.Proofs.YtiimkifkakdalaaW.PrintWords Go.Proofs.YtiimkifkakdalaaW.PrintLast
set_option linter.unusedVariables false
set_option linter.unusedSimpArgs false

theorem p_l1In (x a b : Int) : spec_l1In.f x a b = some (decide (a ≤ x ∧ x ≤ b)) := by
  unfold spec_l1In.f
  by_cases h : a ≤ x
  · by_cases h2 : x ≤ b
    · simp [h, h2]
    · simp [h, h2]
  · simp [h]
/-- The degrees of a set of edges. -/
def pDg (n : Nat) (e : Int) : List Int := cDegs e (cPairs n) 0 (List.replicate n 0)
theorem p_dg_len (n : Nat) (e : Int) : (pDg n e).length = n := by unfold pDg; rw [cDegs_length]; simp
/-- All degrees lie within bounds. -/
def pIn (n : Nat) (a b e : Int) : Bool := (pDg n e).all fun d => decide (a ≤ d ∧ d ≤ b)
theorem p_dIx (p : Int → Bool) (l : List Int) : decide (0 ≤ dIx p l 0) = l.any p := by
  rcases dIx_cases p l 0 with ⟨h1, h2⟩ | ⟨k, hk, h1, h2, h3⟩
  · rw [h1, decide_eq_false (by omega)]
    rw [List.filter_eq_self] at h2
    symm
    rw [List.any_eq_false]
    intro x hx
    have := h2 x hx
    simpa using this
  · rw [h1, decide_eq_true (by omega)]
    symm
    rw [List.any_eq_true]
    exact ⟨_, rd_mem l k hk, h3⟩
theorem p_implHas (n : Nat) (h3 : 3 ≤ n) (h7 : n ≤ 7) (e a b : Int) : Ev (fun k => impl_hasDegrees.f k (n : Int) e a b) (pIn n a b e) := by
  unfold impl_hasDegrees.f
  have hd := c_implDegrees (n : Int) (by omega) (by omega) e
  rw [Int.toNat_natCast] at hd
  refine Ev.bind hd ?_
  have hl : (cDegs e (cPairs n) 0 (List.replicate n 0)).length < 4611686018427387904 := by rw [cDegs_length]; simp; omega
  simp only [if_pos hl]
  have : (!(decide (0 ≤ dIx (degOut a b) (cDegs e (cPairs n) 0 (List.replicate n 0)) 0))) = pIn n a b e := by
    rw [p_dIx]
    unfold pIn pDg
    rw [List.not_any_eq_all_not]
    congr 1
    funext d
    unfold degOut
    rw [Bool.eq_iff_iff]
    simp
  rw [this]
  exact Ev.now _
theorem p_specDeg (n : Nat) (h3 : 3 ≤ n) (h7 : n ≤ 7) (e : Int) (he : cES (n : Int) e) : Ev (fun k => spec_DegreesOf.f k (n : Int) e) (pDg n e) := by
  have := cS_DegreesOf (n : Int) e
  unfold cx_DegreesOf at this
  rw [if_pos ⟨by omega, by omega, he⟩, Int.toNat_natCast] at this
  exact this
/-- What the reference keeps. -/
def pFine (n : Nat) (a b : Int) (conn : Bool) (e : Int) : Bool := (!conn || cCon (n : Int) e) && pIn n a b e
theorem p_sets_in (n : Int) (s : ByteArray) (a b : Int) (conn : Bool) (o all : List Int) (q : Nat) (hq : q < all.length) (ha : all.length ≤ 1099511627776) (ho : o.length ≤ q) (degs : List Int) (hdl : degs.length ≤ 100) (rT rF : List Int)
    (hT : Ev (fun k => spec_l11Sets.l0 k a b conn (o ++ [rd all (q : Int)]) all ((q + 1 : Nat) : Int) n s) rT) (hF : Ev (fun k => spec_l11Sets.l0 k a b conn o all ((q + 1 : Nat) : Int) n s) rF) : ∀ (d p : Nat) (fine : Bool), p + d = degs.length →
    Ev (fun k => spec_l11Sets.l1 k a b conn o all (q : Int) fine degs (p : Int) n s) (if (fine && (degs.drop p).all fun d => decide (a ≤ d ∧ d ≤ b)) = true then rT else rF) := by
  have g0 : (0 : Int) ≤ (q : Int) := by omega
  have g1 : (q : Int) < (all.length : Int) := by omega
  have g2 : o.length < 17592186044416 := by omega
  have gq := Aside0.mk (c_w1 q (show q < 4611686018427387904 by omega))
  intro d
  induction d with
  | zero =>
    intro p fine hp
    rw [List.drop_eq_nil_of_le (by omega), List.all_nil, Bool.and_true]
    have hn : ¬ (p : Int) < (degs.length : Int) := by omega
    cases fine with
    | true =>
      rw [if_pos rfl]
      refine Ev.step (fun k => ?_) hT
      simp only [spec_l11Sets.l1, if_neg hn, if_true, if_pos g0, if_pos g1, if_pos g2, gq.out]
    | false =>
      rw [if_neg (by simp)]
      refine Ev.step (fun k => ?_) hF
      simp only [spec_l11Sets.l1, if_neg hn, Bool.false_eq_true, if_false, gq.out]
  | succ d ih =>
    intro p fine hp
    have hlt : (p : Int) < (degs.length : Int) := by omega
    have h0 : (0 : Int) ≤ (p : Int) := by omega
    have gp := Aside0.mk (c_w1 p (show p < 4611686018427387904 by omega))
    rw [List.drop_eq_getElem_cons (show p < degs.length by omega), List.all_cons]
    have hrd : rd degs (p : Int) = degs[p]'(by omega) := by rw [c_rd, List.getD_eq_getElem?_getD, List.getElem?_eq_getElem (by omega)]; rfl
    cases fine with
    | true =>
      refine Ev.step (f := fun k => spec_l11Sets.l1 k a b conn o all (q : Int) (decide (a ≤ degs[p]'(by omega) ∧ degs[p]'(by omega) ≤ b)) degs ((p + 1 : Nat) : Int) n s) (fun k => ?_) ?_
      · simp only [spec_l11Sets.l1, if_pos hlt, if_true, if_pos h0, hrd, p_l1In, Option.bind_some, gp.out]
      · have := ih (p + 1) (decide (a ≤ degs[p]'(by omega) ∧ degs[p]'(by omega) ≤ b)) (by omega)
        rw [Bool.true_and]
        exact this
    | false =>
      refine Ev.step (f := fun k => spec_l11Sets.l1 k a b conn o all (q : Int) false degs ((p + 1 : Nat) : Int) n s) (fun k => ?_) ?_
      · simp only [spec_l11Sets.l1, if_pos hlt, Bool.false_eq_true, if_false, gp.out]
      · have := ih (p + 1) false (by omega)
        rw [Bool.false_and] at this ⊢
        exact this
theorem p_sets_l (n : Nat) (h3 : 3 ≤ n) (h7 : n ≤ 7) (s : ByteArray) (a b : Int) (conn : Bool) (all : List Int) (hall : ∀ x ∈ all, cES (n : Int) x) (ha : all.length ≤ 1099511627776) : ∀ (d q : Nat) (o : List Int), q + d = all.length → o.length ≤ q →
    Ev (fun k => spec_l11Sets.l0 k a b conn o all (q : Int) (n : Int) s) (o ++ (all.drop q).filter (pFine n a b conn)) := by
  intro d
  induction d with
  | zero =>
    intro q o hq ho
    rw [List.drop_eq_nil_of_le (by omega), List.filter_nil, List.append_nil]
    refine Ev.step (f := fun _ => some o) (fun k => ?_) (Ev.now _)
    simp only [spec_l11Sets.l0]; rw [if_neg (by omega)]
  | succ d ih =>
    intro q o hq ho
    have hlt : q < all.length := by omega
    have g0 : (0 : Int) ≤ (q : Int) := by omega
    have g1 : (q : Int) < (all.length : Int) := by omega
    have hrd : rd all (q : Int) = all[q]'hlt := by rw [c_rd, List.getD_eq_getElem?_getD, List.getElem?_eq_getElem hlt]; rfl
    have hx : cES (n : Int) (rd all (q : Int)) := by rw [hrd]; exact hall _ (List.getElem_mem hlt)
    rw [List.drop_eq_getElem_cons hlt, List.filter_cons, ← hrd]
    have hT := ih (q + 1) (o ++ [rd all (q : Int)]) (by omega) (by rw [List.length_append, List.length_singleton]; omega)
    have hF := ih (q + 1) o (by omega) (by omega)
    rw [List.append_assoc] at hT
    generalize rd all (q : Int) = x at hx hT hrd ⊢
    have hj : ∀ c : Bool, Ev (fun k => spec_l11Sets.j1 k a b conn o all (q : Int) c (n : Int) s) (if (c && pIn n a b x) = true then o ++ ([x] ++ List.filter (pFine n a b conn) (List.drop (q + 1) all)) else o ++ List.filter (pFine n a b conn) (List.drop (q + 1) all)) := by
      intro c
      have hxq : rd all (q : Int) = x := by rw [c_rd, List.getD_eq_getElem?_getD, List.getElem?_eq_getElem hlt, hrd]; rfl
      refine Ev.step (f := fun k => (spec_DegreesOf.f k (n : Int) x).bind fun t => spec_l11Sets.l1 k a b conn o all (q : Int) c t 0 (n : Int) s) (fun k => ?_) (Ev.bind (p_specDeg n h3 h7 x hx) ?_)
      · simp only [spec_l11Sets.j1, if_pos g0, if_pos g1, hxq]
      · have := p_sets_in (n : Int) s a b conn o all q hlt ha ho (pDg n x) (by rw [p_dg_len]; omega) _ _ (by rw [hxq]; exact hT) hF n 0 c (by rw [p_dg_len]; omega)
        rw [List.drop_zero] at this
        exact this
    cases conn with
    | false =>
      have h := hj true
      have e : pFine n a b false x = pIn n a b x := by simp [pFine]
      rw [Bool.true_and] at h
      rw [e]
      refine Ev.step (f := fun k => spec_l11Sets.j1 k a b false o all (q : Int) true (n : Int) s) (fun k => ?_) ?_
      · simp only [spec_l11Sets.l0, if_pos g1, Bool.false_eq_true, if_false]
      · cases hp : pIn n a b x with
        | true => rw [hp] at h; simpa using h
        | false => rw [hp] at h; simpa using h
    | true =>
      have h := hj (cCon (n : Int) x)
      have e : pFine n a b true x = (cCon (n : Int) x && pIn n a b x) := by simp [pFine]
      have hxq : rd all (q : Int) = x := by rw [c_rd, List.getD_eq_getElem?_getD, List.getElem?_eq_getElem hlt, hrd]; rfl
      rw [e]
      refine Ev.step (f := fun k => (spec_l11Connected.f k (n : Int) x).bind fun t => spec_l11Sets.j1 k a b true o all (q : Int) t (n : Int) s) (fun k => ?_) (Ev.bind (c_specCon (n : Int) (by omega) (by omega) x) ?_)
      · simp only [spec_l11Sets.l0, if_pos g1, if_true, if_pos g0, hxq]
      · cases hp : (cCon (n : Int) x && pIn n a b x) with
        | true => rw [hp] at h; simpa using h
        | false => rw [hp] at h; simpa using h
theorem p_es (n : Nat) (h3 : 3 ≤ n) (h6 : n ≤ 6) (e : Nat) (he : e < 2 ^ (cPairs n).length) : cES (n : Int) (e : Int) := by
  unfold cES
  rw [Int.toNat_natCast]
  refine ⟨by omega, ?_⟩
  have : ((2 : Int) ^ (cPairs n).length) = ((2 ^ (cPairs n).length : Nat) : Int) := by rw [Int.natCast_pow]; rfl
  rw [this]; omega
theorem p_pl_zero (n : Nat) (s : ByteArray) : pPl n s 0 = true := by
  rw [p_iff]; intro q y _ _ h _; rw [Nat.zero_testBit] at h; exact Bool.noConfusion h
theorem p_specSets (n : Nat) (s : ByteArray) (hs : s.size ≤ 1099511627776) (hf : cFits (n : Int) s = true) (m : Nat) (hm : m < 100) (a b : Int) (conn : Bool) :
    Ev (fun k => spec_l11Sets.f k (n : Int) s (m : Int) a b conn) (pS n s m (fun e => pFine n a b conn (e : Int)) 0 (2 ^ (cPairs n).length)) := by
  obtain ⟨m', hm', h3, h6, hz, hA⟩ := c_fits_open (n : Int) s hf
  obtain rfl : n = m' := by omega
  have h15 := c_pairs6 n h3 h6
  have hp15 : 2 ^ (cPairs n).length ≤ 2 ^ 15 := Nat.pow_le_pow_right (by decide) h15
  have hlr := (c_rows_len n h3 (by omega) s).1
  unfold spec_l11Sets.f
  simp only [Option.bind_some]
  refine Ev.bind (c_specFits (n : Int) s hs) ?_
  simp only [hf, if_true]
  refine Ev.bind (c_specRows n h3 (by omega) s hz) ?_
  have h1 := p_specPl n h3 h6 s (cPairs n).length 0 m [] (Nat.le_refl _) (by omega) hm (by simp) (by rw [Nat.mul_zero]; exact p_pl_zero n s)
  rw [Nat.mul_zero, List.nil_append] at h1
  have hw : wrap64 (((cRows n s).length : Int) - 1) = ((cPairs n).length : Int) - 1 := by rw [hlr, c_wid _ (by omega) (by omega)]
  rw [hw]
  refine Ev.bind h1 ?_
  have hlen := p_l_len n s 0 (2 ^ (cPairs n).length) m
  have hall : ∀ x ∈ pL n s 0 (2 ^ (cPairs n).length) m, cES (n : Int) x := by
    intro x hx
    unfold pL at hx
    rw [List.mem_map] at hx
    obtain ⟨e, he, rfl⟩ := hx
    have := (List.mem_filter.1 he).1
    rw [List.mem_range'_1] at this
    exact p_es n h3 h6 e (by omega)
  have h2 := p_sets_l n h3 (by omega) s a b conn _ hall (by omega) _ 0 [] (Nat.zero_add _) (Nat.le_refl _)
  rw [List.nil_append, List.drop_zero] at h2
  have e : List.filter (pFine n a b conn) (pL n s 0 (2 ^ (cPairs n).length) m) = pS n s m (fun e => pFine n a b conn (e : Int)) 0 (2 ^ (cPairs n).length) := by
    unfold pL pS
    rw [List.filter_map, List.filter_filter]
    congr 2
    funext x
    simp only [Function.comp, Nat.sub_zero]
    rw [Bool.and_comm]
  rw [e] at h2
  exact h2
theorem p_specSets_no (n : Int) (s : ByteArray) (hs : s.size ≤ 1099511627776) (hf : cFits n s = false) (m a b : Int) (conn : Bool) : Ev (fun k => spec_l11Sets.f k n s m a b conn) [] := by
  unfold spec_l11Sets.f
  simp only [Option.bind_some]
  refine Ev.bind (c_specFits n s hs) ?_
  simp only [hf, Bool.false_eq_true, if_false]; exact Ev.now _

end Go.Proofs.Ytiimkifkakdalaa.P
