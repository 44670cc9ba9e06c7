/- Rows of rows told apart: the list of slice values, and the rows. Conditions: none. -/
import Derived.Test.YtiimkifkakdalaaWAll2
namespace Go.Proofs.Ytiimkifkakdalaa.P
open Go.RowKit Go.Proofs.YtiimkifkakdalaaW.PrintWords Go.Proofs.YtiimkifkakdalaaW.PrintLast Go.Proofs.YtiimkifkakdalaaW.PrintMore
set_option linter.unusedVariables false
set_option linter.unusedSimpArgs false

abbrev Zr := (Option Addr × Nat × Nat) × List Int
/-- A slice value by its parts. -/
def slV (p : Option Addr × Nat × Nat) : Value := .slice p.1 p.2.1 p.2.2
def kSl : Kd (Option Addr × Nat × Nat) := Kd.scalar slV (fun _ => rfl)
def slOf : Value → Option Addr × Nat × Nat
  | .slice A n c => (A, n, c)
  | _ => (none, 0, 0)
/-- Rows of numbers, each in its own block. -/
def Rws (w : World) (base : Nat) (ok : Nat → Prop) (zs : List Zr) : Prop :=
  (∀ z ∈ zs, Kd.R (Kd.int .i64) 3 w base ok (slV z.1) z.2) ∧ zs.Pairwise (fun a b => ∀ k, (slV a.1).ownBlock = some k → (slV b.1).ownBlock ≠ some k)
theorem Rws.step {w w1 : World} {base : Nat} {ok : Nat → Prop} {zs : List Zr} (h : Rws w base ok zs) (hm : ∀ k, ok k → k < w.heap.size → w1.heap[k]? = w.heap[k]?) : Rws w1 base ok zs := ⟨fun z hz => Kd.R_step (h.1 z hz) hm, h.2⟩
theorem Rws.mono {w : World} {base : Nat} {ok ok' : Nat → Prop} {zs : List Zr} (h : Rws w base ok zs) (hm : ∀ k, ok k → ok' k) : Rws w base ok' zs := ⟨fun z hz => Kd.R_mono (h.1 z hz) hm, h.2⟩
theorem Rws.perm {w : World} {base : Nat} {ok : Nat → Prop} {zs ys : List Zr} (h : Rws w base ok zs) (hp : zs.Perm ys) : Rws w base ok ys :=
  ⟨fun z hz => h.1 z (hp.mem_iff.mpr hz), hp.pairwise h.2 (fun {a b} hab k hk hk2 => hab k hk2 hk)⟩
theorem Rws.cons {w : World} {base : Nat} {ok ok1 ok2 : Nat → Prop} {zs : List Zr} {z : Zr} (h : Rws w base ok1 zs) (h1 : Kd.R (Kd.int .i64) 3 w base ok2 (slV z.1) z.2) (hd : ∀ k, ok2 k → ¬ ok1 k) (o1 : ∀ k, ok1 k → ok k) (o2 : ∀ k, ok2 k → ok k) : Rws w base ok (z :: zs) :=
  ⟨fun y hy => by
    rcases List.mem_cons.mp hy with rfl | hy
    · exact Kd.R_mono h1 o2
    · exact Kd.R_mono (h.1 y hy) o1,
   List.pairwise_cons.mpr ⟨fun y hy k hk hk2 => hd k (h1.1 k hk) ((h.1 y hy).1 k hk2), h.2⟩⟩
theorem sl_drop (inner : List Value) (j : Nat) (v : Value) (h : (inner.drop (j * 1)).take 1 = [v]) : inner[j]? = some v := by
  rw [Nat.mul_one] at h
  have h2 : ((inner.drop j).take 1)[0]? = some v := by rw [h]; rfl
  rw [List.getElem?_take, if_pos (by decide), List.getElem?_drop, Nat.add_zero] at h2
  exact h2
theorem sl_take (inner : List Value) (j : Nat) (v : Value) (h : inner[j]? = some v) : (inner.drop (j * 1)).take 1 = [v] := by
  rw [Nat.mul_one]
  obtain ⟨hj, rfl⟩ := List.getElem?_eq_some_iff.mp h
  rw [List.drop_eq_getElem_cons hj, List.take_succ_cons, List.take_zero]
/-- Told apart. -/
theorem S_split {w : World} {base : Nat} {ok : Nat → Prop} {v : Value} {xss : List (List Int)} (h : Kd.S (Kd.slice 3 (Kd.int .i64)) 25 w base ok v xss) :
    ∃ zs : List Zr, zs.map (·.2) = xss ∧ Kd.R kSl 25 w base (fun k => ok k ∧ some k = v.ownBlock) v (zs.map (·.1)) ∧ Rws w base (fun k => ok k ∧ some k ≠ v.ownBlock) zs := by
  obtain ⟨f, h0, inner, ho, hl, hr⟩ := h
  rw [List.length_zipIdx] at ho hl
  have hl1 : inner.length = xss.length := hl.trans (Nat.mul_one _)
  have hrow : ∀ (j : Nat) (x : List Int), xss[j]? = some x → ∃ u : Value, inner[j]? = some u ∧ Kd.R (Kd.int .i64) 3 w base (fun k => (ok k ∧ some k ≠ v.ownBlock) ∧ f k = j) u x := by
    intro j x hj
    obtain ⟨u, hu, hR⟩ := hr j (x, j) (Kd.zip_at hj)
    exact ⟨u, sl_drop _ _ _ hu, hR⟩
  have hin : ∀ (j : Nat) (u : Value), inner[j]? = some u → slV (slOf u) = u := by
    intro j u hu
    have hj : j < xss.length := by rw [← hl1]; exact (List.getElem?_eq_some_iff.mp hu).1
    obtain ⟨u', hu', hR⟩ := hrow j _ (List.getElem?_eq_getElem hj)
    rw [hu] at hu'
    obtain rfl := Option.some.inj hu'
    obtain ⟨A, c, rfl⟩ := Kd.R_slice hR
    rfl
  have hzl : ((inner.map slOf).zip xss).length = xss.length := by rw [List.length_zip, List.length_map, hl1, Nat.min_self]
  have hz1 : ((inner.map slOf).zip xss).map (·.1) = inner.map slOf := List.map_fst_zip (by rw [List.length_map, hl1]; exact Nat.le_refl _)
  have hz2 : ((inner.map slOf).zip xss).map (·.2) = xss := List.map_snd_zip (by rw [List.length_map, hl1]; exact Nat.le_refl _)
  have hcell : (inner.map slOf).map slV = inner := by
    rw [List.map_map]
    refine List.ext_getElem? (fun j => ?_)
    rw [List.getElem?_map]
    cases q : inner[j]? with
    | none => rfl
    | some u => exact congrArg some (hin j u q)
  have hget : ∀ (j : Nat) (z : Zr), ((inner.map slOf).zip xss)[j]? = some z → Kd.R (Kd.int .i64) 3 w base (fun k => (ok k ∧ some k ≠ v.ownBlock) ∧ f k = j) (slV z.1) z.2 := by
    intro j z hz
    rw [List.getElem?_zip_eq_some] at hz
    obtain ⟨e1, e2⟩ := hz
    obtain ⟨u, hu, hR⟩ := hrow j z.2 e2
    rw [List.getElem?_map, hu] at e1
    obtain e1 := Option.some.inj e1
    rw [← e1, hin j u hu]
    exact hR
  refine ⟨(inner.map slOf).zip xss, hz2, ?_, ?_, ?_⟩
  · rw [hz1]
    refine ⟨fun k hk => ⟨h0 k hk, hk.symm⟩, inner, ?_, ?_, fun j p hj => ?_⟩
    · rw [List.length_map, hl1]; exact ho
    · rw [List.length_map]; exact (Nat.mul_one _).symm
    · rw [List.getElem?_map] at hj
      obtain ⟨u, hu, rfl⟩ := Option.map_eq_some_iff.mp hj
      show (inner.drop (j * 1)).take 1 = [slV (slOf u)]
      rw [hin j u hu]
      exact sl_take _ _ _ hu
  · intro z hz
    obtain ⟨j, hj⟩ := List.mem_iff_getElem?.mp hz
    exact Kd.R_mono (hget j z hj) (fun _ hk => hk.1)
  · refine List.pairwise_iff_getElem.mpr (fun i j hi hj hij k hk hk2 => ?_)
    have h1 := hget i _ (List.getElem?_eq_getElem hi)
    have h2 := hget j _ (List.getElem?_eq_getElem hj)
    have e1 := (h1.1 k hk).2
    have e2 := (h2.1 k hk2).2
    omega
/-- And back. -/
theorem S_join {w : World} {base : Nat} {ok okv okr : Nat → Prop} {v : Value} {zs : List Zr} (hv : Kd.R kSl 25 w base okv v (zs.map (·.1))) (hr : Rws w base okr zs) (ov : ∀ k, okv k → ok k) (or_ : ∀ k, okr k → ok k ∧ some k ≠ v.ownBlock) :
    Kd.S (Kd.slice 3 (Kd.int .i64)) 25 w base ok v (zs.map (·.2)) := by
  obtain ⟨h0, inner, ho, hl, hc⟩ := hv
  rw [List.length_map] at ho hl
  have hap : ∀ i j k : Nat, (∃ z : Zr, zs[i]? = some z ∧ (slV z.1).ownBlock = some k) → (∃ z : Zr, zs[j]? = some z ∧ (slV z.1).ownBlock = some k) → i = j := by
    rintro i j k ⟨z, hz, hk⟩ ⟨y, hy, hk2⟩
    obtain ⟨hi, rfl⟩ := List.getElem?_eq_some_iff.mp hz
    obtain ⟨hj, rfl⟩ := List.getElem?_eq_some_iff.mp hy
    rcases Nat.lt_trichotomy i j with h | h | h
    · exact absurd hk2 (List.pairwise_iff_getElem.mp hr.2 i j hi hj h k hk)
    · exact h
    · exact absurd hk (List.pairwise_iff_getElem.mp hr.2 j i hj hi h k hk2)
  obtain ⟨f, hf⟩ := Kd.reps_tag (d := Kd.slice 3 (Kd.int .i64)) (w := w) (base := base) (ok := fun k => ok k ∧ some k ≠ v.ownBlock) (xs := zs.map (·.2)) (inner := inner) (fun j k => ∃ z : Zr, zs[j]? = some z ∧ (slV z.1).ownBlock = some k) hap
    (fun j k hk => by
      obtain ⟨z, hz, hk⟩ := hk
      exact or_ k ((hr.1 z (List.mem_of_getElem? hz)).1 k hk))
    (by rw [List.length_map]; exact hl)
    (fun j x hj => by
      rw [List.getElem?_map] at hj
      obtain ⟨z, hz, rfl⟩ := Option.map_eq_some_iff.mp hj
      have hc2 := hc j z.1 (by rw [List.getElem?_map, hz]; rfl)
      refine ⟨slV z.1, hc2, Kd.R_mono (Kd.R_tight rfl (hr.1 z (List.mem_of_getElem? hz))) (fun k hk => ⟨z, hz, hk.symm⟩)⟩)
  exact ⟨f, fun k hk => ov k (h0 k hk), inner, by rw [List.length_zipIdx, List.length_map]; exact ho, hf⟩

end Go.Proofs.Ytiimkifkakdalaa.P
