/- FlipDistance: the program's map and queue and the reference's two lists go the same way: the numbers found, in the same order, with the same distances. Conditions: the text is at most 2^40 bytes long. -/
import Derived.Test.YtiimkifkakdalaaCFlips
import Derived.Test.YtiimkifkakdalaaOFlipD
import Derived.Test.YtiimkifkakdalaaP25
namespace Go.Proofs.Ytiimkifkakdalaa.P
open Go.RowKit Go.Proofs.YtiimkifkakdalaaW.PrintWords Go.Proofs.YtiimkifkakdalaaW.PrintLast
set_option linter.unusedVariables false
set_option linter.unusedSimpArgs false

def fdKeys (F : List (Int × Int)) : List Int := F.map (·.1)
def fdFar (F : List (Int × Int)) : List Int := F.map (·.2)
theorem fd_any : ∀ (F : List (Int × Int)) (x : Int) (o : Option Int), (F.foldl (fun o p => if p.1 = x then some p.2 else o) o).isSome = (o.isSome || (fdKeys F).any (· == x))
  | [], x, o => by simp [fdKeys]
  | p :: F, x, o => by
    rw [List.foldl_cons, fd_any F x]
    by_cases h : p.1 = x
    · simp [fdKeys, h]
    · have h2 : (p.1 == x) = false := beq_eq_false_iff_ne.mpr h
      simp [fdKeys, h, h2]
theorem fd_some (F : List (Int × Int)) (x : Int) : (fdLook F x).isSome = (fdKeys F).any (· == x) := by
  unfold fdLook; rw [fd_any]; simp
theorem fd_far : ∀ (F : List (Int × Int)) (x : Int) (o : Option Int), (∀ p ∈ F, p.1 ≠ x) → F.foldl (fun o p => if p.1 = x then some p.2 else o) o = o
  | [], _, _, _ => rfl
  | p :: F, x, o, h => by
    rw [List.foldl_cons, if_neg (h p (List.mem_cons_self ..))]
    exact fd_far F x o (fun r hr => h r (List.mem_cons_of_mem _ hr))
theorem fd_at : ∀ (F : List (Int × Int)) (o : Option Int) (i : Nat) (p : Int × Int), F[i]? = some p → (fdKeys F).Nodup → F.foldl (fun o r => if r.1 = p.1 then some r.2 else o) o = some p.2
  | [], _, _, _, h, _ => by simp at h
  | r :: F, o, i, p, h, hn => by
    rw [fdKeys, List.map_cons, List.nodup_cons] at hn
    rw [List.foldl_cons]
    cases i with
    | zero =>
      simp only [List.getElem?_cons_zero, Option.some.injEq] at h
      subst h
      rw [if_pos rfl]
      exact fd_far F _ _ (fun s hs he => hn.1 (by rw [← he]; exact List.mem_map_of_mem hs))
    | succ i =>
      rw [List.getElem?_cons_succ] at h
      exact fd_at F _ i p h hn.2
theorem fd_look_at (F : List (Int × Int)) (i : Nat) (p : Int × Int) (h : F[i]? = some p) (hn : (fdKeys F).Nodup) : fdLook F p.1 = some p.2 := fd_at F none i p h hn
theorem fd_pigeon : ∀ (m : Nat) (l : List Int), l.Nodup → (∀ x ∈ l, ∃ v : Nat, x = (v : Int) ∧ v < m) → l.length ≤ m
  | 0, l, _, h => by
    cases l with
    | nil => exact Nat.le_refl _
    | cons x l => obtain ⟨v, _, hv⟩ := h x (List.mem_cons_self ..); omega
  | m + 1, l, hd, h => by
    have h1 := fd_pigeon m (l.erase (m : Int)) (hd.erase _) (fun x hx => by
      have hx2 := (List.Nodup.mem_erase_iff hd).1 hx
      obtain ⟨v, rfl, hv⟩ := h x hx2.2
      refine ⟨v, rfl, ?_⟩
      have : v ≠ m := fun he => hx2.1 (by rw [he])
      omega)
    by_cases hm : (m : Int) ∈ l
    · rw [List.length_erase_of_mem hm] at h1; omega
    · rw [List.erase_of_not_mem hm] at h1; omega
/-- What holds of the numbers found. -/
def fdInv (F : List (Int × Int)) : Prop := (fdKeys F).Nodup ∧ ∀ x ∈ fdKeys F, ∃ v : Nat, x = (v : Int) ∧ v < 32768
theorem fdInv_len {F : List (Int × Int)} (h : fdInv F) : F.length ≤ 32768 := by
  have := fd_pigeon 32768 _ h.1 h.2
  rwa [fdKeys, List.length_map] at this
theorem fdInv_add {F : List (Int × Int)} (h : fdInv F) (q x : Int) (hx : ∃ v : Nat, x = (v : Int) ∧ v < 32768) : fdInv (fdAdd q F x) := by
  cases hs : (fdLook F x).isSome with
  | true => rw [fdAdd_look q F x hs]; exact h
  | false =>
    rw [fdAdd_new q F x hs]
    rw [fd_some] at hs
    have hn : x ∉ fdKeys F := fun hm => by
      rw [List.any_eq_false] at hs
      exact hs x hm (beq_self_eq_true x)
    refine ⟨?_, ?_⟩
    · rw [fdKeys, List.map_append]
      rw [List.nodup_append]
      refine ⟨h.1, by simp, ?_⟩
      intro a ha b hb he
      simp at hb
      rw [he, hb] at ha
      exact hn ha
    · intro y hy
      rw [fdKeys, List.map_append] at hy
      rcases List.mem_append.mp hy with hy | hy
      · exact h.2 y hy
      · simp at hy; rw [hy]; exact hx
theorem fdInv_fold (q : Int) : ∀ (nb : List Int) (F : List (Int × Int)), fdInv F → (∀ x ∈ nb, ∃ v : Nat, x = (v : Int) ∧ v < 32768) → fdInv (nb.foldl (fdAdd q) F)
  | [], _, h, _ => h
  | x :: nb, F, h, hx => fdInv_fold q nb _ (fdInv_add h q x (hx x (List.mem_cons_self ..))) (fun y hy => hx y (List.mem_cons_of_mem _ hy))
/-- The results of flips stay small. -/
theorem fd_cFp (rows : List Int) (e i : Nat) : ∀ (d q : Nat) (x : Int) (c : Nat), cFp rows e i d q x c = (x, c) ∨ ∃ f, f < q + d ∧ e.testBit f = false ∧ (cFp rows e i d q x c).1 = ((e - 2 ^ i + 2 ^ f : Nat) : Int)
  | 0, q, x, c => .inl rfl
  | d + 1, q, x, c => by
    unfold cFp
    split
    · rename_i h
      rcases fd_cFp rows e i d (q + 1) ((e - 2 ^ i + 2 ^ q : Nat) : Int) (c + 1) with h1 | ⟨f, h1, h2⟩
      · exact .inr ⟨q, by omega, by simp at h; exact h.1, by rw [h1]⟩
      · exact .inr ⟨f, by omega, h2⟩
    · rcases fd_cFp rows e i d (q + 1) x c with h1 | ⟨f, h1, h2⟩
      · exact .inl h1
      · exact .inr ⟨f, by omega, h2⟩
theorem fd_small (rows : List Int) (hl : rows.length ≤ 15) (e : Nat) (he : e < 32768) (i : Nat) (hi : e.testBit i = true) (h2 : (cFlip rows e i).2 = true) : ∃ v : Nat, (cFlip rows e i).1 = (v : Int) ∧ v < 32768 := by
  unfold cFlip cFe at h2 ⊢
  split at h2
  · rename_i h3
    rw [if_pos h3]
    rcases fd_cFp rows e i rows.length 0 0 0 with h1 | ⟨f, h1, h4, h5⟩
    · rw [h1] at h3; simp at h3
    · refine ⟨_, h5, ?_⟩
      have hb : (e - 2 ^ i).testBit f = false := by rw [c_sub_bit e i f hi, h4, Bool.false_and]
      rw [← c_or_add _ _ hb]
      exact Nat.or_lt_two_pow (n := 15) (by have := Nat.sub_le e (2 ^ i); omega) (Nat.pow_lt_pow_right (by decide) (by omega))
  · simp at h2
theorem fd_fls (rows : List Int) (hl : rows.length ≤ 15) (e : Nat) (he : e < 32768) : ∀ (d q : Nat) (y : Int), y ∈ cFls rows e d q → ∃ v : Nat, y = (v : Int) ∧ v < 32768
  | 0, q, y, h => by simp [cFls] at h
  | d + 1, q, y, h => by
    unfold cFls at h
    split at h
    · rename_i hc
      rw [Bool.and_eq_true] at hc
      rcases List.mem_cons.mp h with h | h
      · rw [h]; exact fd_small rows hl e he q hc.1 hc.2
      · exact fd_fls rows hl e he d (q + 1) y h
    · exact fd_fls rows hl e he d (q + 1) y h
theorem fd_wf (v : Nat) (h : v < 32768) : fdWf (v : Int) = true := by
  have := wrap64_wf (v : Int)
  rwa [c_wid _ (by omega) (by omega)] at this
section
variable (rows : List Int) (hl : rows.length ≤ 15) (b : Int)
include hl
omit hl in
/-- The reference looks for a number among those found. -/
theorem fd_l2 (G : List (Int × Int)) (hG : G.length ≤ 40000) (i : Nat) (hi : i < G.length) (nb : List Int) (j : Nat) (hj : j < nb.length) (hnb : nb.length ≤ 100) (c : Int)
    (h : Ev (fun k => spec_FlipDistance.l1 k b rows (if (fdKeys G).any (· == nb.getD j 0) = true then fdKeys G else fdKeys G ++ [nb.getD j 0]) (if (fdKeys G).any (· == nb.getD j 0) = true then fdFar G else fdFar G ++ [wrap64 ((fdFar G).getD i 0 + 1)]) (i : Int) nb ((j + 1 : Nat) : Int)) c) :
    ∀ (d t : Nat) (fl : Bool), t + d = G.length → (fl || ((fdKeys G).drop t).any (· == nb.getD j 0)) = (fdKeys G).any (· == nb.getD j 0) → Ev (fun k => spec_FlipDistance.l2 k b rows (fdKeys G) (fdFar G) (i : Int) nb (j : Int) fl (t : Int)) c := by
  have hk : (fdKeys G).length = G.length := by rw [fdKeys, List.length_map]
  have hf : (fdFar G).length = G.length := by rw [fdFar, List.length_map]
  have b1 : ∀ (m : Nat), (0 : Int) ≤ (m : Int) := fun m => Int.natCast_nonneg m
  have b2 : (j : Int) < (nb.length : Int) := Int.ofNat_lt.mpr hj
  have b3 : (i : Int) < ((fdFar G).length : Int) := Int.ofNat_lt.mpr (by omega)
  have b4 : (fdKeys G).length < 17592186044416 := by omega
  have b5 : (fdFar G).length < 17592186044416 := by omega
  have b6 : ∀ t : Nat, t < G.length → (t : Int) < ((fdKeys G).length : Int) := fun t ht => Int.ofNat_lt.mpr (by omega)
  have hw0 : ∀ t : Nat, t ≤ 40000 → wrap64 ((t : Int) + 1) = ((t + 1 : Nat) : Int) := fun t ht => by rw [c_wid _ (by omega) (by omega)]; rfl
  have hw := Aside0.mk (hw0 j (by omega))
  have hw1 := Aside0.mk hw0
  clear hw0
  intro d
  induction d with
  | zero =>
    intro t fl ht hfl
    rw [List.drop_eq_nil_of_le (by omega), List.any_nil, Bool.or_false] at hfl
    rw [← hfl] at h
    cases fl with
    | true =>
      refine Ev.step (f := fun k => spec_FlipDistance.l1 k b rows (fdKeys G) (fdFar G) (i : Int) nb ((j + 1 : Nat) : Int)) (fun k => ?_) (by simpa using h)
      rw [spec_FlipDistance.l2, if_neg (by omega), if_pos rfl, hw.out]
    | false =>
      refine Ev.step (f := fun k => spec_FlipDistance.l1 k b rows (fdKeys G ++ [nb.getD j 0]) (fdFar G ++ [wrap64 ((fdFar G).getD i 0 + 1)]) (i : Int) nb ((j + 1 : Nat) : Int)) (fun k => ?_) (by simpa using h)
      rw [spec_FlipDistance.l2, if_neg (by omega), if_neg (by simp), if_pos (b1 j), if_pos b2, if_pos b4, if_pos (b1 i), if_pos b3, if_pos b5, hw.out, c_rd, c_rd]
  | succ d ih =>
    intro t fl ht hfl
    have hwt := Aside0.mk (hw1.out t (by omega))
    have b7 := b6 t (by omega)
    have hd : (fdKeys G).drop t = (fdKeys G).getD t 0 :: (fdKeys G).drop (t + 1) := by
      rw [List.drop_eq_getElem_cons (by omega), List.getD_eq_getElem?_getD, List.getElem?_eq_getElem (by omega)]
      rfl
    rw [hd, List.any_cons] at hfl
    cases fl with
    | true =>
      refine Ev.step (f := fun k => spec_FlipDistance.l2 k b rows (fdKeys G) (fdFar G) (i : Int) nb (j : Int) true ((t + 1 : Nat) : Int)) (fun k => ?_) (ih (t + 1) true (by omega) (by rw [← hfl]; simp))
      rw [spec_FlipDistance.l2, if_pos b7, if_pos rfl, hwt.out]
    | false =>
      refine Ev.step (f := fun k => spec_FlipDistance.l2 k b rows (fdKeys G) (fdFar G) (i : Int) nb (j : Int) ((fdKeys G).getD t 0 == nb.getD j 0) ((t + 1 : Nat) : Int)) (fun k => ?_) (ih (t + 1) _ (by omega) (by rw [← hfl]; simp))
      rw [spec_FlipDistance.l2, if_pos b7, if_neg (by simp), if_pos (b1 t), if_pos (b1 j), if_pos b2, hwt.out, c_rd, c_rd]
omit hl in
theorem fd_l1 (nb : List Int) (hnb : nb.length ≤ 100) (hv : ∀ x ∈ nb, ∃ v : Nat, x = (v : Int) ∧ v < 32768) (i : Nat) (p : Int × Int) (c : Int) : ∀ (d j : Nat) (G : List (Int × Int)), j + d = nb.length → fdInv G → G[i]? = some p →
    Ev (fun k => spec_FlipDistance.l0 k b rows (fdKeys ((nb.drop j).foldl (fdAdd p.1) G)) (fdFar ((nb.drop j).foldl (fdAdd p.1) G)) ((i + 1 : Nat) : Int)) c → Ev (fun k => spec_FlipDistance.l1 k b rows (fdKeys G) (fdFar G) (i : Int) nb (j : Int)) c := by
  intro d
  induction d with
  | zero =>
    intro j G hj hI hp h
    have hlen := fdInv_len hI
    have hi := (List.getElem?_eq_some_iff.1 hp).1
    rw [List.drop_eq_nil_of_le (by omega)] at h
    refine Ev.step (f := fun k => spec_FlipDistance.l0 k b rows (fdKeys G) (fdFar G) ((i + 1 : Nat) : Int)) (fun k => ?_) h
    rw [spec_FlipDistance.l1, if_neg (by omega), c_wid _ (by omega) (by omega)]
    rfl
  | succ d ih =>
    intro j G hj hI hp h
    have hlen := fdInv_len hI
    have hi := (List.getElem?_eq_some_iff.1 hp).1
    have hx : nb[j]? = some (nb.getD j 0) := by rw [List.getD_eq_getElem?_getD, List.getElem?_eq_getElem (by omega)]; rfl
    rw [List.drop_eq_getElem_cons (by omega), List.foldl_cons] at h
    have hx2 : nb[j]'(by omega) = nb.getD j 0 := by rw [List.getD_eq_getElem?_getD, List.getElem?_eq_getElem (by omega)]; rfl
    rw [hx2] at h
    have hI2 := fdInv_add hI p.1 (nb.getD j 0) (hv _ (List.mem_of_getElem? hx))
    have hfar : (fdFar G).getD i 0 = p.2 := by rw [fdFar, List.getD_eq_getElem?_getD, List.getElem?_map, hp]; rfl
    have hlook := fd_look_at G i p hp hI.1
    refine Ev.step (f := fun k => spec_FlipDistance.l2 k b rows (fdKeys G) (fdFar G) (i : Int) nb (j : Int) false ((0 : Nat) : Int)) (fun k => ?_) (fd_l2 rows b G (by omega) i hi nb j (by omega) hnb c ?_ G.length 0 false (by omega) (by simp))
    · rw [spec_FlipDistance.l1, if_pos (by omega)]
      rfl
    · have hs := fd_some G (nb.getD j 0)
      cases hc : (fdLook G (nb.getD j 0)).isSome with
      | true =>
        rw [fdAdd_look _ _ _ hc] at h hI2
        rw [hc] at hs
        rw [← hs, if_pos rfl, if_pos rfl]
        exact ih (j + 1) G (by omega) hI hp h
      | false =>
        rw [fdAdd_new _ _ _ hc, hlook] at h hI2
        rw [hc] at hs
        rw [← hs, if_neg (by simp), if_neg (by simp), hfar]
        have h2 := ih (j + 1) _ (by omega) hI2 (by rw [List.getElem?_append_left hi]; exact hp) h
        have e1 : fdKeys (G ++ [(nb.getD j 0, wrap64 ((some p.2).getD 0 + 1))]) = fdKeys G ++ [nb.getD j 0] := by simp [fdKeys]
        have e2 : fdFar (G ++ [(nb.getD j 0, wrap64 ((some p.2).getD 0 + 1))]) = fdFar G ++ [wrap64 (p.2 + 1)] := by simp [fdFar]
        rw [e1, e2] at h2
        exact h2
theorem fd_all : ∀ (d i : Nat) (F : List (Int × Int)), i + d = 32769 → i ≤ F.length → fdInv F → ∃ c, Ev (fun k => impl_FlipDistance.l0 k rows b F i) c ∧ Ev (fun k => spec_FlipDistance.l0 k b rows (fdKeys F) (fdFar F) (i : Int)) c := by
  intro d
  induction d with
  | zero =>
    intro i F hi hF hI
    have := fdInv_len hI
    omega
  | succ d ih =>
    intro i F hi hF hI
    have hlen := fdInv_len hI
    have hk : (fdKeys F).length = F.length := by rw [fdKeys, List.length_map]
    have hf : (fdFar F).length = F.length := by rw [fdFar, List.length_map]
    by_cases h1 : i < F.length
    case neg =>
      refine ⟨-1, Ev.step (f := fun _ => some (-1)) (fun k => ?_) (Ev.now _), Ev.step (f := fun _ => some (-1)) (fun k => ?_) (Ev.now _)⟩
      · rw [impl_FlipDistance.l0, if_neg h1]
      · rw [spec_FlipDistance.l0, if_neg (by omega)]
    case pos =>
      obtain ⟨p, hp⟩ : ∃ p, F[i]? = some p := ⟨_, List.getElem?_eq_getElem h1⟩
      have hg : F.getD i (0, 0) = p := by rw [List.getD_eq_getElem?_getD, hp]; rfl
      have hkey : rd (fdKeys F) (i : Int) = p.1 := by rw [c_rd, fdKeys, List.getD_eq_getElem?_getD, List.getElem?_map, hp]; rfl
      have hfar : rd (fdFar F) (i : Int) = p.2 := by rw [c_rd, fdFar, List.getD_eq_getElem?_getD, List.getElem?_map, hp]; rfl
      have hlook := fd_look_at F i p hp hI.1
      by_cases h2 : p.1 = b
      · refine ⟨p.2, Ev.step (f := fun _ => some p.2) (fun k => ?_) (Ev.now _), Ev.step (f := fun _ => some p.2) (fun k => ?_) (Ev.now _)⟩
        · rw [impl_FlipDistance.l0, if_pos h1, hg, if_pos h2, ← h2, hlook]; rfl
        · rw [spec_FlipDistance.l0, if_pos (by omega), if_pos (by omega), hkey, if_pos h2, if_pos (by omega), hfar]
      · obtain ⟨m, hm, hm2⟩ := hI.2 p.1 (List.mem_map_of_mem (List.mem_of_getElem? hp))
        have hIm := c_implFlips_l rows hl m hm2 rows.length 0 [] (by omega) (by simp)
        have hSp := c_specFlips_l rows hl m hm2 rows.length 0 [] (by omega) (by simp) (by simp)
        rw [show cSort [] = [] from by simp [cSort], List.nil_append] at hSp
        rw [List.nil_append] at hIm
        have hnbv : ∀ x ∈ cSort (cFls rows m rows.length 0), ∃ v : Nat, x = (v : Int) ∧ v < 32768 := fun x hx => fd_fls rows hl m hm2 _ _ x ((cSort_perm _).mem_iff.1 hx)
        have hnbl : (cSort (cFls rows m rows.length 0)).length ≤ 100 := by rw [cSort_len]; have := cFls_len rows m rows.length 0; omega
        generalize cSort (cFls rows m rows.length 0) = nb at hIm hSp hnbv hnbl
        have hI2 := fdInv_fold p.1 nb F hI hnbv
        have hle : F.length ≤ (nb.foldl (fdAdd p.1) F).length := by
          have : ∀ (nb : List Int) (F : List (Int × Int)), F.length ≤ (nb.foldl (fdAdd p.1) F).length := by
            intro nb
            induction nb with
            | nil => intro F; exact Nat.le_refl _
            | cons x nb ih =>
              intro F
              refine Nat.le_trans ?_ (ih _)
              unfold fdAdd
              split
              · exact Nat.le_refl _
              · rw [List.length_append]; omega
          exact this nb F
        obtain ⟨c, hc1, hc2⟩ := ih (i + 1) (nb.foldl (fdAdd p.1) F) (by omega) (by omega) hI2
        refine ⟨c, ?_, ?_⟩
        · refine Ev.step (f := fun k => (impl_plane_flips.f k rows (m : Int)).bind fun nb => if nb.all fdWf = true ∧ F.length + nb.length < 1000000000 then impl_FlipDistance.l0 k rows b (nb.foldl (fdAdd p.1) F) (i + 1) else none) (fun k => ?_) (Ev.bind hIm ?_)
          · rw [impl_FlipDistance.l0, if_pos h1, hg, if_neg h2, hm]
          · have hcond : nb.all fdWf = true ∧ F.length + nb.length < 1000000000 := ⟨by rw [List.all_eq_true]; intro x hx; obtain ⟨v, rfl, hv⟩ := hnbv x hx; exact fd_wf v hv, by omega⟩
            simp only [if_pos hcond]
            exact hc1
        · refine Ev.step (f := fun k => (spec_l10Flips.f k rows (m : Int)).bind fun t => spec_FlipDistance.l1 k b rows (fdKeys F) (fdFar F) (i : Int) t 0) (fun k => ?_) (Ev.bind hSp (fd_l1 rows b nb hnbl hnbv i p c nb.length 0 F (by omega) hI hp (by simpa using hc2)))
          rw [spec_FlipDistance.l0, if_pos (by omega), if_pos (by omega), hkey, if_neg h2, hm]
end
/-- Both sides give the same number. -/
theorem c_flipD (n : Int) (s : ByteArray) (hs : s.size ≤ 1099511627776) (a b : Int) : ∃ c, Ev (fun k => impl_FlipDistance.f k n s a b) c ∧ Ev (fun k => spec_FlipDistance.f k n s a b) c := by
  by_cases h : cTri n s a = true
  case neg =>
    rw [Bool.not_eq_true] at h
    refine ⟨-1, ?_, ?_⟩
    · unfold impl_FlipDistance.f
      refine Ev.bind (c_implTri n s hs a) ?_
      simp only [h, Bool.false_eq_true, if_false]
      exact Ev.now _
    · unfold spec_FlipDistance.f
      refine Ev.bind (c_specTri n s hs a) ?_
      simp only [h, Bool.false_eq_true, if_false]
      refine Ev.step (f := fun _ => some (-1)) (fun k => ?_) (Ev.now _)
      rw [spec_FlipDistance.j0, if_pos rfl]
  case pos =>
    by_cases h' : cTri n s b = true
    case neg =>
      rw [Bool.not_eq_true] at h'
      refine ⟨-1, ?_, ?_⟩
      · unfold impl_FlipDistance.f
        refine Ev.bind (c_implTri n s hs a) ?_
        simp only [h, if_true]
        refine Ev.bind (c_implTri n s hs b) ?_
        simp only [h', Bool.false_eq_true, if_false]
        exact Ev.now _
      · unfold spec_FlipDistance.f
        refine Ev.bind (c_specTri n s hs a) ?_
        simp only [h, if_true]
        refine Ev.bind (c_specTri n s hs b) ?_
        simp only [h']
        refine Ev.step (f := fun _ => some (-1)) (fun k => ?_) (Ev.now _)
        rw [spec_FlipDistance.j0, if_pos (by simp)]
    case pos =>
      obtain ⟨m, x, rfl, rfl, h3, h6, hz, hfit, _, _, _, hx⟩ := c_tri_open n s a h
      obtain ⟨_, y, _, rfl, _, _, _, _, _, _, _, hy⟩ := c_tri_open _ s b h'
      have h15 := c_pairs6 m h3 h6
      have hlr := (c_rows_len m h3 (by omega) s).1
      have hp := c_planeOf (m : Int) s hs
      rw [if_pos hfit, Int.toNat_natCast] at hp
      obtain ⟨c, hc1, hc2⟩ := fd_all (cRows m s) (by omega) (y : Int) 32769 0 [((x : Int), 0)] (by omega) (by simp) ⟨by simp [fdKeys], fun z hz => ⟨x, by simpa [fdKeys] using hz, hx⟩⟩
      refine ⟨c, ?_, ?_⟩
      · unfold impl_FlipDistance.f
        refine Ev.bind (c_implTri (m : Int) s hs x) ?_
        simp only [h, if_true]
        refine Ev.bind (c_implTri (m : Int) s hs y) ?_
        simp only [h', if_true]
        refine Ev.bind hp ?_
        have hcond : (true = true) ∧ fdWf (x : Int) = true ∧ fdWf (y : Int) = true := ⟨rfl, fd_wf x hx, fd_wf y hy⟩
        simp only [if_true, if_pos hcond]
        refine Ev.congr (f := fun k => impl_FlipDistance.l0 k (cRows m s) (y : Int) [((x : Int), 0)] 0) (fun k => ?_) hc1
        rw [if_pos (by exact ⟨trivial, hcond.2⟩)]
      · unfold spec_FlipDistance.f
        refine Ev.bind (c_specTri (m : Int) s hs x) ?_
        simp only [h, if_true]
        refine Ev.bind (c_specTri (m : Int) s hs y) ?_
        simp only [h']
        refine Ev.step (f := fun k => (spec_l10Pairs.f k (m : Int) s).bind fun t => spec_FlipDistance.l0 k (y : Int) t [(x : Int)] [0] 0) (fun k => ?_) (Ev.bind (c_specRows m h3 (by omega) s hz) ?_)
        · rw [spec_FlipDistance.j0, if_neg (by simp)]
        · exact hc2

end Go.Proofs.Ytiimkifkakdalaa.P
