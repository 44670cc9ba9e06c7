/- What impl.planeSets lists. Conditions: none. -/
import Derived.Test.YtiimkifkakdalaaOPlane
import Derived.Test.YtiimkifkakdalaaOIsPl
import Derived.Test.YtiimkifkakdalaaP65
namespace Go.Proofs.Ytiimkifkakdalaa.P
open Go.RowKit Go.Proofs.YtiimkifkakdalaaW.PrintWords Go.Proofs.YtiimkifkakdalaaW.PrintLast Go.Proofs.YtiimkifkakdalaaW.PrintMore
set_option linter.unusedVariables false
set_option linter.unusedSimpArgs false

def planeSets.l0 (F : Nat → Int → Option Bool) (kk : Int) : Nat → List Int → Int → Int → List Int → Option (List Int)
  | 0, _, _, _, _ => none
  | k + 1, rows, all, x, o => if x ≤ all then ((bits_OnesCount.f (IntKind.u64.wrap x)).bind fun t => if t = kk then ((impl_plane_isPlane.f k rows x).bind fun b => if b = true then ((F k x).bind fun c => if c = true then (if o.length < 17592186044416 then planeSets.l0 F kk k rows all (wrap64 (x + 1)) (o ++ [x]) else none) else planeSets.l0 F kk k rows all (wrap64 (x + 1)) o) else planeSets.l0 F kk k rows all (wrap64 (x + 1)) o) else planeSets.l0 F kk k rows all (wrap64 (x + 1)) o) else some o
def planeSets.f (F : Nat → Int → Option Bool) (kk : Int) (k : Nat) (n : Int) (s : ByteArray) : Option (List Int) := (impl_planeOf.f k n s).bind fun r => if r.2 = true then planeSets.l0 F kk k r.1.1 r.1.2 0 [] else some []
theorem planeSets.mono_l (F : Nat → Int → Option Bool) (kk : Int) (hF : ∀ k x, LeO (F k x) (F (k + 1) x)) : ∀ k, (∀ y0 y1 y2 y3, LeO (planeSets.l0 F kk k y0 y1 y2 y3) (planeSets.l0 F kk (k + 1) y0 y1 y2 y3))
  | 0 => fun _ _ _ _ r h => by simp [planeSets.l0] at h
  | k + 1 => by
    have ih0 := planeSets.mono_l F kk hF k
    intro y0 y1 y2 y3
    unfold planeSets.l0
    repeat' first
      | (with_reducible exact ih0 _ _ _ _)
      | (with_reducible exact hF _ _)
      | (with_reducible exact impl_plane_isPlane.mono _ _ _)
      | (with_reducible exact LeO.refl _)
      | (with_reducible refine LeO.ite ?_ ?_)
      | (with_reducible refine LeO.bind ?_ (fun _ => ?_))
theorem planeSets.mono (F : Nat → Int → Option Bool) (kk : Int) (hF : ∀ k x, LeO (F k x) (F (k + 1) x)) : ∀ a0 a1 k, LeO (planeSets.f F kk k a0 a1) (planeSets.f F kk (k + 1) a0 a1) := by
  intro a0 a1 k
  have ih0 := planeSets.mono_l F kk hF k
  unfold planeSets.f
  repeat' first
    | (with_reducible exact ih0 _ _ _ _)
    | (with_reducible exact impl_planeOf.mono _ _ _)
    | (with_reducible exact LeO.refl _)
    | (with_reducible refine LeO.ite ?_ ?_)
    | (with_reducible refine LeO.bind ?_ (fun _ => ?_))
def pset.T8 : Bool × List (List Nat × List Nat) := (true, [([], []), ([0], [0]), ([1], [1]), ([], []), ([], []), ([4], [4]), ([3, 5, 2], [3, 5]), ([2, 6], [2, 6]), ([7, 6], [7]), ([8], [8]), ([8], [8]), ([9, 10, 8, 8], [8, 9, 10]), ([8, 11], [8, 11]), ([12, 11], [12]), ([13], [13]), ([13], [13]), ([14, 15, 13, 13], [13, 14, 15]), ([13, 16], [13, 16])])
def pset.B8 : List Nat := [0, 1, 3, 0, 0, 16, 63, 127, 255, 511, 511, 2047, 4095, 8191, 16383, 16383, 65535, 131071]
theorem pset.tab8 : rtab .any (opsOf Try.f35 8) = pset.T8 := by kernel_rfl
theorem pset.bits8 : waitsOk pset.T8.2 pset.B8 = true := by kernel_rfl
section
variable {P : Program} {ops : Array Oper} {Q : Exit → Act → World → Prop} {md : Region.Mode} {S : World → Prop} {ds : List Nat}
/-- An operation that yields nothing, as its guard says no. -/
theorem pn (i N : Nat) {T : Bool × List (List Nat × List Nat)} {oi : Oper} {fuel : Nat} {l : Array Bool} {a : Act} {w : World} {a' : Act} (hT : Aside0 (rtab md ops = T))
    (h : wpAnyLast P md ops Q S ds fuel (l.setIfInBounds i true) a' w) (hi : ops[i]? = some oi := by exact rfl) (hN : oi.dst = some N := by exact rfl) (hc : anyT T l.toList (l.setIfInBounds i true).toList i = true := by kernel_rfl)
    (hQ : ∀ c a w, Q (.panic c) (a.put oi.dst undef) w → Q (.panic c) a w := by exact fun _ _ _ h => h) (hy : Region.wanted oi (yielded ops a.tmps) = false := by rfl)
    (ha : a.put (some N) undef = a' := by simp only [Act.put, List.setIfInBounds_toArray, List.set_cons_zero, List.set_cons_succ, i64_w, i32_w]; rfl) : wpAnyLast P md ops Q S ds (fuel + 1) l a w :=
  pure_ (i := i) (N := some N) _ hi hN (any_of hT.out hc) hQ (.inr ⟨hy, rfl⟩) ha h
theorem nope_ {c : Bool} {p q : Prop} (hc : c = false) (hq : q) : if c = true then p else q := by rw [if_neg (by rw [hc]; simp)]; exact hq
end

end Go.Proofs.Ytiimkifkakdalaa.P
