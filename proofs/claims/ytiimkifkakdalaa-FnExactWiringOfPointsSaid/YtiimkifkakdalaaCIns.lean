/- Insertion from the back: the library's insertion sort, and its pdqsort of at most twelve, put one element after the other into its place. Conditions: none. -/
import Derived.Test.YtiimkifkakdalaaCNum
import Derived.Sort.Defs
namespace Go.Proofs.Ytiimkifkakdalaa.P
open Go.Sort
set_option linter.unusedVariables false
set_option linter.unusedSimpArgs false

/-- The place of x, asked from place j downward. -/
def bAt {α : Type} [Inhabited α] (lt : α → α → Bool) (x : α) (l : List α) : Nat → Nat
  | 0 => 0
  | j + 1 => if lt x (l[j]!) then bAt lt x l j else j + 1
theorem bAt_le {α : Type} [Inhabited α] (lt : α → α → Bool) (x : α) (l : List α) : ∀ j, bAt lt x l j ≤ j
  | 0 => Nat.le_refl _
  | j + 1 => by
    rw [bAt]; split
    · exact Nat.le_succ_of_le (bAt_le lt x l j)
    · exact Nat.le_refl _
def bIns {α : Type} [Inhabited α] (lt : α → α → Bool) (l : List α) (x : α) : List α := l.take (bAt lt x l l.length) ++ x :: l.drop (bAt lt x l l.length)
def bSort {α : Type} [Inhabited α] (lt : α → α → Bool) (l : List α) : List α := l.foldl (bIns lt) []
theorem bIns_perm {α : Type} [Inhabited α] (lt : α → α → Bool) (l : List α) (x : α) : (bIns lt l x).Perm (x :: l) := by
  unfold bIns
  refine List.perm_middle.trans ?_
  rw [List.take_append_drop]
theorem bSort_perm_l {α : Type} [Inhabited α] (lt : α → α → Bool) : ∀ (l acc : List α), (l.foldl (bIns lt) acc).Perm (acc ++ l)
  | [], acc => by simp
  | x :: l, acc => by
    rw [List.foldl_cons]
    refine (bSort_perm_l lt l _).trans ?_
    refine ((bIns_perm lt acc x).append_right l).trans ?_
    exact List.perm_middle.symm
theorem bSort_perm {α : Type} [Inhabited α] (lt : α → α → Bool) (l : List α) : (bSort lt l).Perm l := bSort_perm_l lt l []
theorem b_get {α : Type} [Inhabited α] (pre : List α) (x : α) (post : List α) : (pre ++ x :: post).toArray[pre.length]! = x := by
  simp
theorem b_get2 {α : Type} [Inhabited α] (pre : List α) (y x : α) (post : List α) : (pre ++ y :: x :: post).toArray[pre.length + 1]! = x := by
  have := b_get (pre ++ [y]) x post
  rw [List.append_assoc, List.length_append] at this
  exact this
theorem b_swp {α : Type} [Inhabited α] (pre : List α) (y x : α) (post : List α) : swp (pre ++ y :: x :: post).toArray (pre.length + 1) pre.length = (pre ++ x :: y :: post).toArray := by
  unfold swp
  rw [b_get, b_get2]
  simp [List.setIfInBounds_toArray, List.set_append]
theorem b_inner {α : Type} [Inhabited α] (lt : α → α → Bool) (x : α) (post : List α) (l : List α) : ∀ j, j ≤ l.length → insInner lt 0 j (l.take j ++ x :: (l.drop j ++ post)).toArray = (l.take (bAt lt x l j) ++ x :: (l.drop (bAt lt x l j) ++ post)).toArray
  | 0, _ => rfl
  | j + 1, h => by
    have hj : j < l.length := by omega
    have e1 : l.take (j + 1) = l.take j ++ [l[j]] := (List.take_append_getElem hj).symm
    have e2 : l.drop j = l[j] :: l.drop (j + 1) := List.drop_eq_getElem_cons hj
    have e3 : (l.take j).length = j := by rw [List.length_take]; omega
    have g1 := b_get2 (l.take j) l[j] x (l.drop (j + 1) ++ post)
    have g0 := b_get (l.take j) l[j] (x :: (l.drop (j + 1) ++ post))
    have gs := b_swp (l.take j) l[j] x (l.drop (j + 1) ++ post)
    rw [e3] at g1 g0 gs
    have g2 : l[j]! = l[j] := getElem!_pos l j hj
    rw [insInner, e1, List.append_assoc, List.singleton_append, g1, g0, bAt, g2]
    by_cases hx : lt x l[j] = true
    · rw [if_pos (by simp [hx]), if_pos hx, gs]
      have := b_inner lt x post l j (by omega)
      rw [e2] at this
      exact this
    · rw [if_neg (by simp [hx]), if_neg hx, e1, List.append_assoc, List.singleton_append]
theorem b_outer {α : Type} [Inhabited α] (lt : α → α → Bool) : ∀ (post pre : List α), insOuter lt 0 (pre.length + post.length) pre.length (pre ++ post).toArray = (post.foldl (bIns lt) pre).toArray
  | [], pre => by rw [insOuter, if_neg (by simp)]; simp
  | x :: post, pre => by
    rw [insOuter, if_pos (by simp)]
    have h := b_inner lt x post pre pre.length (Nat.le_refl _)
    rw [List.take_length, List.drop_length, List.nil_append] at h
    rw [h, List.foldl_cons]
    have e : (List.take (bAt lt x pre pre.length) pre ++ x :: (List.drop (bAt lt x pre pre.length) pre ++ post)) = bIns lt pre x ++ post := by
      unfold bIns; simp
    have hl : (bIns lt pre x).length = pre.length + 1 := by rw [(bIns_perm lt pre x).length_eq, List.length_cons]
    have ih := b_outer lt post (bIns lt pre x)
    rw [hl] at ih
    rw [e, List.length_cons, show pre.length + (post.length + 1) = pre.length + 1 + post.length by omega]
    exact ih
theorem b_sort {α : Type} [Inhabited α] (lt : α → α → Bool) (l : List α) : insertionSort lt l.toArray 0 l.length = (bSort lt l).toArray := by
  unfold insertionSort bSort
  match l with
  | [] => rw [insOuter, if_neg (by simp)]; rfl
  | x :: l =>
    have := b_outer lt l [x]
    rw [List.foldl_cons]
    have e : bIns lt [] x = [x] := rfl
    rw [e]
    simpa [Nat.add_comm] using this
theorem b_pdq {α : Type} [Inhabited α] (lt : α → α → Bool) (l : List α) (h : l.length ≤ 12) (m : Nat) : pdq lt l.toArray 0 l.length m true true = (bSort lt l).toArray := by
  rw [pdq, if_pos (by omega), b_sort]
theorem bAt_map {α β : Type} [Inhabited α] [Inhabited β] (f : α → β) (lt : α → α → Bool) (lt2 : β → β → Bool) (h : ∀ x y, lt x y = lt2 (f x) (f y)) (x : α) (l : List α) : ∀ j, j ≤ l.length → bAt lt x l j = bAt lt2 (f x) (l.map f) j
  | 0, _ => rfl
  | j + 1, hj => by
    have h1 : l[j]! = l[j] := getElem!_pos l j (by omega)
    have h2 : (l.map f)[j]! = f l[j] := by rw [getElem!_pos (l.map f) j (by rw [List.length_map]; omega), List.getElem_map]
    rw [bAt, bAt, h1, h2, h, bAt_map f lt lt2 h x l j (by omega)]
theorem bIns_map {α β : Type} [Inhabited α] [Inhabited β] (f : α → β) (lt : α → α → Bool) (lt2 : β → β → Bool) (h : ∀ x y, lt x y = lt2 (f x) (f y)) (l : List α) (x : α) : (bIns lt l x).map f = bIns lt2 (l.map f) (f x) := by
  unfold bIns
  rw [List.length_map, ← bAt_map f lt lt2 h x l l.length (Nat.le_refl _), List.map_append, List.map_cons, List.map_take, List.map_drop]
theorem bSort_map_l {α β : Type} [Inhabited α] [Inhabited β] (f : α → β) (lt : α → α → Bool) (lt2 : β → β → Bool) (h : ∀ x y, lt x y = lt2 (f x) (f y)) : ∀ (l acc : List α), (l.foldl (bIns lt) acc).map f = (l.map f).foldl (bIns lt2) (acc.map f)
  | [], acc => rfl
  | x :: l, acc => by rw [List.foldl_cons, bSort_map_l f lt lt2 h l, List.map_cons, List.foldl_cons, bIns_map f lt lt2 h]
theorem bSort_map {α β : Type} [Inhabited α] [Inhabited β] (f : α → β) (lt : α → α → Bool) (lt2 : β → β → Bool) (h : ∀ x y, lt x y = lt2 (f x) (f y)) (l : List α) : (bSort lt l).map f = bSort lt2 (l.map f) := bSort_map_l f lt lt2 h l []

end Go.Proofs.Ytiimkifkakdalaa.P
