/- A plane in memory: its block and its rows. Conditions: none. -/
import Derived.Test.YtiimkifkakdalaaP0
namespace Go.Proofs.Ytiimkifkakdalaa.P
open Go.RowKit Go.Proofs.YtiimkifkakdalaaW.PrintWords Go.Proofs.YtiimkifkakdalaaW.PrintLast Go.Proofs.YtiimkifkakdalaaW.PrintMore
set_option linter.unusedVariables false
set_option linter.unusedSimpArgs false

/-- The plane at block g: its rows and the set of all edges. -/
def PlaneAt (W : World) (g : Nat) (rows : List Int) (all : Int) : Prop := ∃ (A0 A1 : Option Addr) (c1 : Nat), W.heap[g]? = some (.cells #[.pointer A0, .slice A1 rows.length c1, .int .i64 all] 82 (0, 0)) ∧ Kd.C (Kd.int .i64) W A1 rows.length rows
theorem PlaneAt.below {w w1 : World} {g : Nat} {rows : List Int} {all : Int} (h : PlaneAt w g rows all) (hb : Below w.heap.size w w1) : PlaneAt w1 g rows all := by
  obtain ⟨A0, A1, c1, h1, h2⟩ := h
  exact ⟨A0, A1, c1, blk_below h1 hb, Kd.C_below h2 hb⟩
theorem PlaneAt.drewN {w : World} {g : Nat} {rows : List Int} {all : Int} (h : PlaneAt w g rows all) (m : Nat) : PlaneAt (w.drewN m) g rows all := h
theorem PlaneAt.drew {w : World} {g : Nat} {rows : List Int} {all : Int} (h : PlaneAt w g rows all) : PlaneAt w.drew g rows all := h
theorem PlaneAt.alloc {w : World} {g : Nat} {rows : List Int} {all : Int} (h : PlaneAt w g rows all) (o : Obj) : PlaneAt (w.alloc o) g rows all := h.below (below_alloc (Below.refl _ _) o)
theorem PlaneAt.lt {w : World} {g : Nat} {rows : List Int} {all : Int} (h : PlaneAt w g rows all) : g < w.heap.size := by
  obtain ⟨A0, A1, c1, h1, h2⟩ := h
  exact blk_lt h1

end Go.Proofs.Ytiimkifkakdalaa.P
