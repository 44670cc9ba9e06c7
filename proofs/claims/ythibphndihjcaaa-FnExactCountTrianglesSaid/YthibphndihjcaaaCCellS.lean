/- Plain laws of CellSides: the reference's and the program's answer is the sorted list of the sides of the cells shut on both ends. Conditions: the list has at most 2^20 places. -/
import Derived.Test.YthibphndihjcaaaWAll2
import Derived.Test.YthibphndihjcaaaCBase
import Derived.Test.YthibphndihjcaaaCSide
import Derived.Test.YthibphndihjcaaaOCellS
import Derived.Test.YthibphndihjcaaaP29
import Derived.Test.YthibphndihjcaaaP62
namespace Go.Proofs.Ythibphndihjcaaa.P
open Go.RowKit Go.Proofs.YthibphndihjcaaaW.PrintWords Go.Proofs.YthibphndihjcaaaW.PrintLast
set_option linter.unusedVariables false
set_option linter.unusedSimpArgs false

/-- The sides of a level's cells that are shut on both ends, from a state on: none, or the open cell's. -/
def cInn (L : Nat) : List Int → Option Int → List Int
  | [], _ => []
  | p :: w, none => if p.toNat + 1 = L then cInn L w (some 2) else cInn L w none
  | p :: w, some c => if p.toNat + 1 = L then c :: cInn L w (some 2) else if p.toNat = L ∨ p.toNat + 2 = L then cInn L w (some (c + 1)) else cInn L w (some c)
/-- The sides of the cell that a place's exchange opens, if it is shut. -/
def cNx (q : Nat) : List Int → Int → Option Int
  | [], _ => none
  | p :: w, c => if p.toNat = q then some c else if p.toNat = q + 1 ∨ p.toNat + 1 = q then cNx q w (c + 1) else cNx q w c
theorem cInn_some (L : Nat) : ∀ (w : List Int) (c : Int), cInn (L + 1) w (some c) = (cNx L w c).toList ++ cInn (L + 1) w none
  | [], _ => rfl
  | p :: w, c => by
    simp only [cInn, cNx]
    by_cases h1 : p.toNat = L
    · have d : p.toNat + 1 = L + 1 := by omega
      rw [if_pos d, if_pos h1, if_pos d]; rfl
    · have d : ¬ p.toNat + 1 = L + 1 := by omega
      rw [if_neg d, if_neg h1, if_neg d]
      by_cases h2 : p.toNat = L + 1 ∨ p.toNat + 2 = L + 1
      · rw [if_pos h2, if_pos (show p.toNat = L + 1 ∨ p.toNat + 1 = L by omega), cInn_some L w]
      · rw [if_neg h2, if_neg (show ¬ (p.toNat = L + 1 ∨ p.toNat + 1 = L) by omega), cInn_some L w]
/-- The reference's list, in its order. -/
def cRef : List Int → List Int
  | [] => []
  | p :: w => (cNx p.toNat w 2).toList ++ cRef w
theorem cInn_nil (L : Nat) : ∀ w : List Int, (∀ p ∈ w, p.toNat + 1 ≠ L) → cInn L w none = []
  | [], _ => rfl
  | p :: w, h => by
    simp only [cInn]
    rw [if_neg (h p List.mem_cons_self)]
    exact cInn_nil L w (fun q hq => h q (List.mem_cons_of_mem _ hq))
theorem cRef_perm (m : Nat) : ∀ w : List Int, (∀ p ∈ w, p.toNat < m) → (cRef w).Perm ((List.range m).flatMap fun L => cInn (L + 1) w none)
  | [], _ => by simp [cRef, cInn]
  | p :: w, h => by
    have ih := cRef_perm m w (fun q hq => h q (List.mem_cons_of_mem _ hq))
    have hp := h p List.mem_cons_self
    simp only [cRef]
    refine (List.Perm.append_left _ ih).trans ?_
    have e : (List.range m).flatMap (fun L => cInn (L + 1) (p :: w) none) = (List.range m).flatMap (fun L => (if L = p.toNat then (cNx p.toNat w 2).toList else []) ++ cInn (L + 1) w none) := by
      congr 1
      funext L
      simp only [cInn]
      by_cases h1 : p.toNat + 1 = L + 1
      · rw [if_pos h1, cInn_some, if_pos (by omega), show L = p.toNat by omega]
      · rw [if_neg h1, if_neg (by omega)]; rfl
    rw [e]
    have gen : ∀ (l : List Nat) (x : List Int) (f : Nat → List Int), p.toNat ∈ l → l.Nodup → (x ++ l.flatMap f).Perm (l.flatMap fun L => (if L = p.toNat then x else []) ++ f L) := by
      intro l
      induction l with
      | nil => intro x f hm; simp at hm
      | cons a l ihl =>
        intro x f hm hd
        obtain ⟨hd1, hd2⟩ := List.nodup_cons.1 hd
        simp only [List.flatMap_cons]
        by_cases ha : a = p.toNat
        · rw [if_pos ha]
          have hz : (l.flatMap fun L => (if L = p.toNat then x else []) ++ f L) = l.flatMap f := by
            have : ∀ L ∈ l, (if L = p.toNat then x else []) ++ f L = f L := fun L hL => by
              rw [if_neg (fun he => hd1 (by rw [ha, ← he]; exact hL))]; rfl
            clear ihl hd hd1 hd2 hm e
            induction l with
            | nil => rfl
            | cons b l ih2 => simp only [List.flatMap_cons]; rw [this b List.mem_cons_self, ih2 (fun L hL => this L (List.mem_cons_of_mem _ hL))]
          rw [hz, List.append_assoc]
        · rw [if_neg ha, List.nil_append]
          have hm2 : p.toNat ∈ l := by
            rcases List.mem_cons.1 hm with h3 | h3
            · exact absurd h3.symm ha
            · exact h3
          have h4 := ihl x f hm2 hd2
          refine List.Perm.trans ?_ (List.Perm.append_left (f a) h4)
          rw [← List.append_assoc, ← List.append_assoc]
          exact List.Perm.append_right _ List.perm_append_comm
    exact gen (List.range m) _ _ (List.mem_range.2 hp) List.nodup_range
/-- The program's rows, cut at both ends. -/
theorem cRowS_dl (L : Nat) : ∀ (w : List Int) (c : Int), (cRowS L w c).dropLast = cInn L w (some c)
  | [], _ => rfl
  | p :: w, c => by
    have hne : cRowS L w 2 ≠ [] := by
      intro h; have := cRowS_length L w 2; rw [h] at this; simp at this
    simp only [cRowS, cInn]
    by_cases h1 : p.toNat + 1 = L
    · rw [if_pos h1, if_pos h1, List.dropLast_cons_of_ne_nil hne, cRowS_dl L w]
    · rw [if_neg h1, if_neg h1]
      by_cases h2 : p.toNat = L ∨ p.toNat + 2 = L
      · rw [if_pos h2, if_pos h2, cRowS_dl L w]
      · rw [if_neg h2, if_neg h2, cRowS_dl L w]
theorem cInn_tail (L : Nat) : ∀ (w : List Int) (c : Int), (cInn L w (some c)).drop 1 = cInn L w none
  | [], _ => rfl
  | p :: w, c => by
    simp only [cInn]
    by_cases h1 : p.toNat + 1 = L
    · rw [if_pos h1, if_pos h1]; rfl
    · rw [if_neg h1, if_neg h1]
      by_cases h2 : p.toNat = L ∨ p.toNat + 2 = L
      · rw [if_pos h2, cInn_tail L w]
      · rw [if_neg h2, cInn_tail L w]
def cSo (l : List Int) : List Int := l.mergeSort fun x y => decide (x ≤ y)
theorem cSo_len (l : List Int) : (cSo l).length = l.length := List.length_mergeSort _
theorem cSo_perm (l : List Int) : (cSo l).Perm l := List.mergeSort_perm _ _
theorem cSo_sorted (l : List Int) : (cSo l).Pairwise (· ≤ ·) := by
  have h := List.pairwise_mergeSort (le := fun x y : Int => decide (x ≤ y)) (fun a b c h1 h2 => by simp only [decide_eq_true_eq] at h1 h2 ⊢; omega) (fun a b => by simp only [Bool.or_eq_true, decide_eq_true_eq]; omega) l
  exact h.imp (fun h => of_decide_eq_true h)
theorem cSorted_eq {a b : List Int} (ha : a.Pairwise (· ≤ ·)) (hb : b.Pairwise (· ≤ ·)) (h : a.Perm b) : a = b :=
  List.Perm.eq_of_pairwise (fun x y _ _ h1 h2 => Int.le_antisymm h1 h2) ha hb h
/-- Both answers. -/
def cCS (n : Int) (w : List Int) : List Int := if cIsW n w = true then cSo (cRef w) else []
theorem cRef_len : ∀ w : List Int, (cRef w).length ≤ w.length
  | [] => Nat.le_refl _
  | p :: w => by
    have := cRef_len w
    simp only [cRef, List.length_append, List.length_cons]
    have h2 : (cNx p.toNat w 2).toList.length ≤ 1 := by cases cNx p.toNat w 2 <;> simp
    omega
theorem csAll_perm {n : Int} {w : List Int} (h : cIsW n w = true) : (csAll (ceAll n (cStart n.toNat) w)).Perm (cRef w) := by
  obtain ⟨h3, h6, -, -⟩ := c_isW_spec h
  have hpl := c_isW_places h
  have e1 : csAll (ceAll n (cStart n.toNat) w) = (cTabS n.toNat w).flatMap fun r => (r.take (r.length - 1)).drop 1 := by
    rw [← cTabS_all h, csAll, List.flatMap_map]
    congr 1
    funext r
    unfold csRow
    rw [List.length_map, List.map_drop, List.map_take]
  have e2 : ∀ r : List Int, (r.take (r.length - 1)).drop 1 = r.dropLast.drop 1 := fun r => by rw [List.dropLast_eq_take]
  have e3 : (cTabS n.toNat w).flatMap (fun r => (r.take (r.length - 1)).drop 1) = (List.range (n.toNat + 1)).flatMap fun L => cInn L w none := by
    unfold cTabS
    rw [List.flatMap_map]
    congr 1
    funext L
    rw [e2, cRowS_dl, cInn_tail]
  rw [e1, e3, List.range_succ_eq_map, List.flatMap_cons, cInn_nil 0 w (fun p _ => by omega), List.nil_append, List.flatMap_map]
  exact (cRef_perm n.toNat w (fun p hp => by have := hpl p hp; omega)).symm
theorem cI_CS (n : Int) (w : List Int) (hl : w.length ≤ 1048576) : Ev (fun k => impl_CellSides.f k n w) (cCS n w) := by
  unfold impl_CellSides.f cCS
  refine Ev.bind (c_isW n w (by omega)) ?_
  by_cases h : cIsW n w = true
  · simp only [h, if_true]
    refine Ev.bind (c_cellsOf h) ?_
    have hb := cRows_bd h
    have hwl := c_isW_len h
    have hp := csAll_perm h
    have hpl := hp.length_eq
    have hrl := cRef_len w
    have e : (csAll (ceAll n (cStart n.toNat) w)).mergeSort (fun x y => decide (x ≤ y)) = cSo (cRef w) := cSorted_eq (cSo_sorted _) (cSo_sorted _) ((cSo_perm _).trans (hp.trans (cSo_perm _).symm))
    refine ⟨0, fun k _ => ?_⟩
    rw [← e]
    exact if_pos ⟨⟨by omega, fun y hy => by have := hb.2 y hy; omega⟩, by omega⟩
  · simp only [if_neg h]; exact Ev.now _
theorem cc_g (l : List Int) (i : Nat) (h : i < l.length) : l.getD i 0 = l[i] := by rw [List.getD_eq_getElem?_getD, List.getElem?_eq_getElem h]; rfl
/-- The reference puts a number into a sorted list. -/
theorem c_put_l (l : List Int) (x : Int) (hl : l.length ≤ 1000) : ∀ a : Nat, a ≤ l.length → (∀ i, a ≤ i → i < l.length → x < l.getD i 0) →
    ∃ b : Nat, b ≤ l.length ∧ Ev (fun k => spec_l16Put.l0 k l x (a : Int)) ((l.take b ++ [x]) ++ l.drop b) ∧ (∀ i, b ≤ i → i < l.length → x < l.getD i 0) ∧ (b = 0 ∨ l.getD (b - 1) 0 ≤ x) := by
  intro a
  induction a with
  | zero =>
    intro h0 hx
    refine ⟨0, Nat.zero_le _, ?_, hx, .inl rfl⟩
    refine Ev.step (f := fun _ => some ((l.take 0 ++ [x]) ++ l.drop 0)) (fun k => ?_) (Ev.now _)
    simp only [spec_l16Put.l0, Option.bind_some]
    rw [if_neg (by omega), if_pos (by omega), if_pos (by omega), if_pos (by simp; omega), if_pos (by simp), if_pos (by simp; omega)]
    simp
  | succ a ih =>
    intro h0 hx
    have E1 := Aside0.mk (show wrap64 (((a + 1 : Nat) : Int) - 1) = (a : Int) by unfold wrap64; omega)
    by_cases hc : x < l.getD a 0
    · obtain ⟨b, hb, he, h1, h2⟩ := ih (by omega) (fun i hi hil => by
        by_cases h3 : i = a
        · rw [h3]; exact hc
        · exact hx i (by omega) hil)
      refine ⟨b, hb, Ev.step (fun k => ?_) he, h1, h2⟩
      simp only [spec_l16Put.l0]
      rw [if_pos (by omega), E1.out, if_pos (by omega), if_pos (by omega), c_rd, if_pos hc]
    · refine ⟨a + 1, h0, ?_, hx, .inr (by rw [Nat.add_sub_cancel]; omega)⟩
      refine Ev.step (f := fun _ => some ((l.take (a + 1) ++ [x]) ++ l.drop (a + 1))) (fun k => ?_) (Ev.now _)
      simp only [spec_l16Put.l0, Option.bind_some]
      rw [if_pos (by omega), E1.out, if_pos (by omega), if_pos (by omega), c_rd, if_neg hc, if_pos (by omega), if_pos (by omega), Int.toNat_natCast, if_pos (by simp; omega), if_pos (by simp; omega), if_pos (by simp; omega)]
      simp
theorem c_put (l : List Int) (x : Int) (hl : l.length ≤ 1000) (hs : l.Pairwise (· ≤ ·)) : ∃ r, Ev (fun k => spec_l16Put.f k l x) r ∧ r.Pairwise (· ≤ ·) ∧ r.Perm (x :: l) := by
  obtain ⟨b, hb, he, h1, h2⟩ := c_put_l l x hl l.length (Nat.le_refl _) (fun i h h' => by omega)
  have hord : ∀ i j, i ≤ j → j < l.length → l.getD i 0 ≤ l.getD j 0 := fun i j hij hj => by
    rw [cc_g l i (by omega), cc_g l j hj]
    rcases Nat.lt_or_ge i j with h3 | h3
    · exact List.pairwise_iff_getElem.1 hs i j (by omega) hj h3
    · have : i = j := by omega
      subst this; exact Int.le_refl _
  refine ⟨_, he, ?_, ?_⟩
  · rw [List.append_assoc, List.pairwise_append]
    refine ⟨hs.sublist (List.take_sublist _ _), ?_, ?_⟩
    · rw [List.singleton_append, List.pairwise_cons]
      refine ⟨fun y hy => ?_, hs.sublist (List.drop_sublist _ _)⟩
      obtain ⟨i, hi, rfl⟩ := List.getElem_of_mem hy
      rw [List.length_drop] at hi
      rw [List.getElem_drop]
      have := h1 (b + i) (by omega) (by omega)
      rw [cc_g l (b + i) (by omega)] at this
      omega
    · intro y hy z hz
      obtain ⟨i, hi, rfl⟩ := List.getElem_of_mem hy
      rw [List.length_take] at hi
      rw [List.getElem_take]
      have hyx : l[i]'(by omega) ≤ x := by
        rcases h2 with h2 | h2
        · omega
        · have := hord i (b - 1) (by omega) (by omega)
          rw [cc_g l i (by omega)] at this
          omega
      rw [List.singleton_append] at hz
      rcases List.mem_cons.1 hz with hz | hz
      · rw [hz]; exact hyx
      · obtain ⟨j, hj, rfl⟩ := List.getElem_of_mem hz
        rw [List.length_drop] at hj
        rw [List.getElem_drop]
        have := h1 (b + j) (by omega) (by omega)
        rw [cc_g l (b + j) (by omega)] at this
        omega
  · rw [List.append_assoc, List.singleton_append]
    refine List.perm_middle.trans ?_
    rw [List.take_append_drop]
theorem cS_CS1 (w out : List Int) (i : Nat) (q : Nat) (hw : w.length ≤ 1000) (hi : i < w.length) (hq : w.getD i 0 = (q : Int)) (hpl : ∀ p ∈ w, 0 ≤ p ∧ p ≤ 100) (R : List Int) :
    ∀ (d j : Nat) (c : Int), j + d = w.length → 0 ≤ c → c ≤ j + 2 → (match cNx q (w.drop j) c with
      | none => Ev (fun k => spec_CellSides.l0 k w out ((i + 1 : Nat) : Int)) R
      | some s => ∃ r, Ev (fun k => spec_l16Put.f k out s) r ∧ Ev (fun k => spec_CellSides.l0 k w r ((i + 1 : Nat) : Int)) R) → Ev (fun k => spec_CellSides.l1 k w out (i : Int) c (j : Int)) R := by
  intro d
  induction d with
  | zero =>
    intro j c hj h0 h1 hm
    rw [List.drop_eq_nil_of_le (by omega)] at hm
    refine Ev.step (f := fun k => spec_CellSides.l0 k w out ((i + 1 : Nat) : Int)) (fun k => ?_) hm
    simp only [spec_CellSides.l1]
    rw [if_neg (by omega), c_w1 i (by omega)]
  | succ d ih =>
    intro j c hj h0 h1 hm
    have hjl : j < w.length := by omega
    have hpj := hpl _ (cc_getD_mem hjl)
    have hpi := hpl _ (cc_getD_mem hi)
    rw [c_drop w j hjl] at hm
    obtain ⟨p, hp⟩ : ∃ p : Nat, w.getD j 0 = (p : Int) := ⟨(w.getD j 0).toNat, by omega⟩
    simp only [cNx, hp, Int.toNat_natCast] at hm
    rw [hp] at hpj
    rw [hq] at hpi
    have E1 := Aside0.mk (show wrap64 ((q : Int) + 1) = (q : Int) + 1 by unfold wrap64; omega)
    have E2 := Aside0.mk (show wrap64 ((p : Int) + 1) = (p : Int) + 1 by unfold wrap64; omega)
    have E3 := Aside0.mk (show wrap64 (c + 1) = c + 1 by unfold wrap64; omega)
    have E4 := Aside0.mk (show wrap64 (c + 0) = c by unfold wrap64; omega)
    by_cases c1 : p = q
    · rw [if_pos c1] at hm
      obtain ⟨r, h3, h4⟩ := hm
      refine Ev.step (f := fun k => (spec_l16Put.f k out c).bind fun t => spec_CellSides.l0 k w t ((i + 1 : Nat) : Int)) (fun k => ?_) (Ev.bind h3 h4)
      simp only [spec_CellSides.l1]
      rw [if_pos (by omega), if_pos (by omega), if_pos (by omega), if_pos (by omega), c_rd, c_rd, hp, hq, if_pos (by omega), c_w1 i (by omega)]
    · rw [if_neg c1] at hm
      have hpre : ∀ k, spec_CellSides.l1 (k + 1) w out (i : Int) c (j : Int) = (spec_l14Far.f (p : Int) (q : Int)).bind fun t => (spec_l1Bit.f (!t)).bind fun s => spec_CellSides.l1 k w out (i : Int) (wrap64 (c + s)) ((j + 1 : Nat) : Int) := fun k => by
        simp only [spec_CellSides.l1]
        rw [if_pos (by omega), if_pos (by omega), if_pos (by omega), if_pos (by omega), c_rd, c_rd, hp, hq, if_neg (by omega), c_w1 j (by omega)]
      by_cases c2 : p = q + 1 ∨ p + 1 = q
      · rw [if_pos c2] at hm
        refine Ev.step (f := fun k => spec_CellSides.l1 k w out (i : Int) (c + 1) ((j + 1 : Nat) : Int)) (fun k => ?_) (ih (j + 1) (c + 1) (by omega) (by omega) (by omega) hm)
        have hf : spec_l14Far.f (p : Int) (q : Int) = some false := by
          unfold spec_l14Far.f
          rw [E1.out, E2.out, if_neg (by omega), decide_eq_false (show ¬ ((q : Int) > (p : Int) + 1) by omega)]
        rw [hpre, hf, Option.bind_some, c_l1Bit, Option.bind_some, if_pos (by decide), E3.out]
      · rw [if_neg c2] at hm
        refine Ev.step (f := fun k => spec_CellSides.l1 k w out (i : Int) c ((j + 1 : Nat) : Int)) (fun k => ?_) (ih (j + 1) c (by omega) (by omega) (by omega) hm)
        have hf : spec_l14Far.f (p : Int) (q : Int) = some true := by
          unfold spec_l14Far.f
          rw [E1.out, E2.out]
          by_cases c3 : (p : Int) > (q : Int) + 1
          · rw [if_pos c3]
          · rw [if_neg c3, decide_eq_true (show (q : Int) > (p : Int) + 1 by omega)]
        rw [hpre, hf, Option.bind_some, c_l1Bit, Option.bind_some, if_neg (by decide), E4.out]
theorem cS_CS0 (w : List Int) (hw : w.length ≤ 500) (hpl : ∀ p ∈ w, 0 ≤ p ∧ p ≤ 100) : ∀ (d i : Nat) (out : List Int), i + d = w.length → out.length ≤ i → out.Pairwise (· ≤ ·) → ∃ R, Ev (fun k => spec_CellSides.l0 k w out (i : Int)) R ∧ R.Pairwise (· ≤ ·) ∧ R.Perm (out ++ cRef (w.drop i)) := by
  intro d
  induction d with
  | zero =>
    intro i out hi ho hs
    refine ⟨out, Ev.step (f := fun _ => some out) (fun k => ?_) (Ev.now _), hs, by rw [List.drop_eq_nil_of_le (by omega)]; simp [cRef]⟩
    simp only [spec_CellSides.l0]
    rw [if_neg (by omega)]
  | succ d ih =>
    intro i out hi ho hs
    have hil : i < w.length := by omega
    have hpi := hpl _ (cc_getD_mem hil)
    obtain ⟨q, hq⟩ : ∃ q : Nat, w.getD i 0 = (q : Int) := ⟨(w.getD i 0).toNat, by omega⟩
    rw [c_drop w i hil]
    simp only [cRef, hq, Int.toNat_natCast]
    have hpre : ∀ k, spec_CellSides.l0 (k + 1) w out (i : Int) = spec_CellSides.l1 k w out (i : Int) 2 ((i + 1 : Nat) : Int) := fun k => by
      simp only [spec_CellSides.l0]
      rw [if_pos (by omega), c_w1 i (by omega)]
    cases hc : cNx q (w.drop (i + 1)) 2 with
    | none =>
      obtain ⟨R, h1, h2, h3⟩ := ih (i + 1) out (by omega) (by omega) hs
      refine ⟨R, Ev.step hpre (cS_CS1 w out i q (by omega) hil hq hpl R d (i + 1) 2 (by omega) (by omega) (by omega) (by rw [hc]; exact h1)), h2, by simpa using h3⟩
    | some s =>
      obtain ⟨r, h4, h5, h6⟩ := c_put out s (by omega) hs
      obtain ⟨R, h1, h2, h3⟩ := ih (i + 1) r (by omega) (by rw [h6.length_eq, List.length_cons]; omega) h5
      refine ⟨R, Ev.step hpre (cS_CS1 w out i q (by omega) hil hq hpl R d (i + 1) 2 (by omega) (by omega) (by omega) (by rw [hc]; exact ⟨r, h4, h1⟩)), h2, ?_⟩
      refine h3.trans ((List.Perm.append_right _ h6).trans ?_)
      simp only [Option.toList_some, List.singleton_append, List.cons_append]
      exact List.perm_middle.symm
theorem cS_CS (n : Int) (w : List Int) (hl : w.length ≤ 1048576) : Ev (fun k => spec_CellSides.f k n w) (cCS n w) := by
  unfold spec_CellSides.f cCS
  simp only [Option.bind_some]
  refine Ev.bind (c_isWiring n w (by omega)) ?_
  by_cases h : cIsW n w = true
  · obtain ⟨h3, h6, -, -⟩ := c_isW_spec h
    have hwl := c_isW_len h
    have hpl := c_isW_places h
    simp only [h, if_true]
    obtain ⟨R, h1, h2, h3⟩ := cS_CS0 w (by omega) (fun p hp => by have := hpl p hp; omega) w.length 0 [] (by omega) (Nat.zero_le _) List.Pairwise.nil
    rw [List.nil_append, List.drop_zero] at h3
    have : R = cSo (cRef w) := cSorted_eq h2 (cSo_sorted _) (h3.trans (cSo_perm _).symm)
    rw [this] at h1
    exact h1
  · simp only [if_neg h]; exact Ev.now _
theorem cCS_len (n : Int) (w : List Int) (hl : w.length ≤ 1048576) : (cCS n w).length ≤ 1048576 := by
  unfold cCS
  split
  · have := cRef_len w; rw [cSo_len]; omega
  · simp

end Go.Proofs.Ythibphndihjcaaa.P
