/- The library's Sort of a slice of numbers, by the shelf's contract: what a call of it computes, and what it writes. Conditions: none. -/
import Derived.Test.YthibphndihjcaaaP0
import Derived.Ground.NamesProg
import Derived.Shelf.Lay
import Derived.Shelf.Sort.Plain
import Derived.Shelf.Slices.In.SortNone
import Derived.Sort.OwnSortedInts
namespace Go.Proofs
open Go.Shelf
shelf_lay Lays.n189 Nm 189 at Try as Try.lays189
end Go.Proofs
namespace Go.Proofs.Ythibphndihjcaaa.P
open Go.RowKit Go.Proofs.YthibphndihjcaaaW.PrintWords Go.Proofs.YthibphndihjcaaaW.PrintLast Go.Proofs.YthibphndihjcaaaW.PrintMore
set_option linter.unusedVariables false
set_option linter.unusedSimpArgs false

def slices_Sort_int_int.f (l0 : List Int) : Option (List Int) := if l0.length < 4611686018427387904 then some (l0.mergeSort fun x y => decide (x ≤ y)) else none
theorem slices_Sort_int_int.calls (P0_ : Nat → Prop) (u9000_ : Value) (l0 : List Int) (r : List Int) (w0 w : World) (hB : Below w0.heap.size w0 w) (ho0 : Kd.R (Kd.int .i64) 3 w w0.heap.size P0_ u9000_ l0) (h : slices_Sort_int_int.f l0 = some r) :
    Calls Try.prog 64 #[u9000_] w fun e w' => e = .returned (.tuple #[]) ∧ Kd.R (Kd.int .i64) 3 w' w0.heap.size (fun k_ => (P0_ k_ ∨ w.heap.size ≤ k_)) u9000_ r ∧ Below w0.heap.size w0 w' ∧ Kept w w' (fun k_ => P0_ k_) := by
  unfold slices_Sort_int_int.f at h
  by_cases hq : l0.length < 4611686018427387904
  case neg => rw [if_neg hq] at h; exact absurd h (by simp)
  rw [if_pos hq] at h
  obtain rfl := Option.some.inj h
  have hP := ho0.1
  have ho := Kd.own_of_R ho0
  have hl : ∀ xs : List Int, (xs.mergeSort fun x y => decide (x ≤ y)).length = xs.length := fun xs => List.length_mergeSort _
  cases l0 with
  | nil =>
    obtain ⟨A, c, rfl⟩ := Kd.R_slice ho0
    refine (Any.slices_Sort_int_none Try.lays189 A c w).mono ?_
    rintro e w' ⟨rfl, rfl⟩
    exact ⟨rfl, Kd.R_mono (by simpa using ho0) (fun k hk => .inl hk), hB, Kept.refl _ _⟩
  | cons x xs =>
    generalize hz : x :: xs = zs at ho0 ho hP hq ⊢
    have hpos : 0 < zs.length := by subst hz; simp
    rcases ho.2 with ⟨_, h0⟩ | ⟨g, cap, cur, rfl, hg, hb, h1, h2, h3, h4⟩
    · omega
    · have hH := holds_of_blockI (ss := zs) hb (by rw [Nat.mul_one] at h4; exact h4)
      have hgl : g < w.heap.size := (Array.getElem?_eq_some_iff.1 hb).1
      refine (Any.slices_Sort_int Try.lays189 g 0 cap zs w hH hgl hq).mono ?_
      rintro e w' ⟨rfl, n, os, rfl⟩
      have hP' : P0_ g := hP g rfl
      have hgr := grownBy_sortedI (w := w) (g := g) (n := n) (os := os) (zs.mergeSort fun x y => decide (x ≤ y)).toArray
      have hnew := ownsRow_sortedI (n := n) (os := os) (base := w0.heap.size) (hl zs) hg hb h1 h2 h3
      refine ⟨rfl, Kd.R_of_own (by rw [hl]; exact hnew) (fun k hk => ?_), hB.grown hgr (below_size hB) (fun k hk => ?_), (Kept.refl w _).of_grown hgr (fun k hk => ?_)⟩
      · obtain rfl : g = k := by simpa [Value.ownBlock] using hk
        exact .inl hP'
      · obtain rfl : g = k := by simpa using hk
        exact hg
      · obtain rfl : g = k := by simpa using hk
        exact .inl hP'
end Go.Proofs.Ythibphndihjcaaa.P
