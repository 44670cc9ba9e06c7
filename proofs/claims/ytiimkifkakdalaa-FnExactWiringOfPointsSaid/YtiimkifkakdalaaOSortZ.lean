/- Rows under the library's sorts: row j by its number, what the sort's worlds still read. Conditions: as said. -/
import Derived.Test.YtiimkifkakdalaaORws
import Derived.Test.YtiimkifkakdalaaOSortE
namespace Go.Proofs.Ytiimkifkakdalaa.P
open Go.RowKit Go.Sort Go.Proofs.YtiimkifkakdalaaW.PrintWords Go.Proofs.YtiimkifkakdalaaW.PrintLast Go.Proofs.YtiimkifkakdalaaW.PrintMore
set_option linter.unusedVariables false
set_option linter.unusedSimpArgs false

theorem ownsRow_sortedE {α : Type} [Inhabited α] {enc : α → Value} {w : World} {base g cap n : Nat} {e : TypeId} {os : Array Obj} {cur : Array Value} {ts : List α} {m : Nat} (hl : ts.length = m) (hbase : base ≤ g) (hb : w.heap[g]? = some (.cells cur e (0, 0)))
    (h1 : m ≤ cap) (h2 : cap ≤ maxLen) (h3 : cur.size = cap * 1) :
    (grow (putRow enc (Sort.ahead w n) g 0 ts.toArray) os).ownsRow base e 1 (.slice (some ⟨g, 0, none⟩) m cap) m (ts.map enc) :=
  ⟨by simp [hl], .inr ⟨g, cap, _, rfl, hbase, heap_sortedE _ hb, h1, h2, by simp [putCells, h3], by rw [Nat.mul_one, ← hl]; exact take_putCellsE cur ts (by omega)⟩⟩
theorem z_row {w : World} {base : Nat} {ok : Nat → Prop} {zs : List Zr} (hW : Rws w base ok zs) (j : Nat) (h : j < zs.length) : ∃ A c, zs[j].1 = (A, zs[j].2.length, c) ∧ zs[j].2.length ≤ c ∧ Kd.C (Kd.int .i64) w A zs[j].2.length zs[j].2 := by
  have hR := hW.1 zs[j] (List.getElem_mem h)
  generalize zs[j] = z at hR ⊢
  obtain ⟨A, c, e⟩ := Kd.R_slice hR
  obtain ⟨⟨z1, z2, z3⟩, zr⟩ := z
  unfold slV at e
  injection e with e1 e2 e3
  simp only at e1 e2 e3
  subst e1 e2 e3
  have := Kd.R_reads' hR
  exact ⟨_, _, rfl, this.2.1, this.2.2⟩
/-- Row j; past the end the first one. -/
def zat (z0 : Zr) (zs : List Zr) (j : Nat) : Zr := zs.getD j z0
theorem zat_range (z0 : Zr) (zs : List Zr) : (List.range zs.length).map (zat z0 zs) = zs := by
  refine List.ext_getElem (by simp) (fun i h1 h2 => ?_)
  rw [List.getElem_map, List.getElem_range]
  unfold zat
  rw [List.getD_eq_getElem?_getD, List.getElem?_eq_getElem h2]; rfl
theorem zat_mem (z0 : Zr) (zs : List Zr) (h0 : z0 ∈ zs) (j : Nat) : zat z0 zs j ∈ zs := by
  unfold zat
  rw [List.getD_eq_getElem?_getD]
  cases h : zs[j]? with
  | none => exact h0
  | some z => exact List.mem_of_getElem? h
def zEnc (z0 : Zr) (zs : List Zr) (j : Nat) : Value := slV (zat z0 zs j).1
theorem sort_read {w : World} {g m : Nat} {z0 : Zr} {zs : List Zr} {dk : Array Nat} {os : Array Obj} {ok : Nat → Prop} {base : Nat} (hW : Rws w base ok zs) (hne : ∀ k, ok k → k ≠ g) (z : Zr) (hz : z ∈ zs) : ∃ n c, slV z.1 = .slice z.1.1 n c ∧ n = z.2.length ∧ z.2.length ≤ c ∧ Kd.C (Kd.int .i64) (sortWorld (zEnc z0 zs) w g 0 m dk os) z.1.1 z.2.length z.2 := by
  have hR := hW.1 z hz
  obtain ⟨A, c, e⟩ := Kd.R_slice hR
  obtain ⟨⟨z1, z2, z3⟩, zr⟩ := z
  unfold slV at e
  injection e with e1 e2 e3
  simp only at e1 e2 e3
  subst e1 e2 e3
  have hR2 := Kd.R_step (w1 := sortWorld (zEnc z0 zs) w g 0 m dk os) hR (fun k hk hlt => by
    have hg := grownBy_sortedE (enc := zEnc z0 zs) (w := w) (g := g) (n := m) (os := os) dk
    exact hg.block k hlt (fun he => hne k hk (Option.some.inj he)))
  have := Kd.R_reads' hR2
  exact ⟨_, _, rfl, rfl, this.2.1, this.2.2⟩

end Go.Proofs.Ytiimkifkakdalaa.P
