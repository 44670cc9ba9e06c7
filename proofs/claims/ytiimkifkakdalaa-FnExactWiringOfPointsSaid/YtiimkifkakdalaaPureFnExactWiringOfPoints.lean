/- For all lists of points the program's WiringOfPoints returns what the reference's returns, in new memory, and leaves its points alone; lists of more than 2^20 points are passed by the law itself. Conditions: none. -/
import Derived.Test.YtiimkifkakdalaaCBase
import Derived.Test.YtiimkifkakdalaaCWop
import Derived.Test.YtiimkifkakdalaaP9
import Derived.Deep.SlicePairs
import Derived.ChangeArms
namespace Go.Proofs.Ytiimkifkakdalaa.P
open Go.RowKit Go.ChangeShapes Go.WideShapes Go.Proofs.YtiimkifkakdalaaW.PrintWords Go.Proofs.YtiimkifkakdalaaW.PrintLast
theorem c_points_in {H : Type} {enc : TypeId × Value → H} {P : Program} {w : World} {base : Nat} {spare : Nat → Bool} {held : Bool} {a : Addr} {len cap m n t : Nat} {V0 V1 : Nat → Value} {D0 D1 : Nat → DataW H} {P0 P1 : Nat → List MemPlace} (hl : len ≤ cap) (hm : cap ≤ maxLen) (hlm : len ≤ m) (ht : P.underlying t = some (.int .i64))
    (hrows : ∀ i, i < m → w.cell? (a.add (i * 2)) = some (V0 i) ∧ w.cell? (a.add (i * 2 + 1)) = some (V1 i) ∧ DataW.trod enc P w base spare held n t [V0 i] = some (D0 i, P0 i) ∧ DataW.trod enc P w base spare held n t [V1 i] = some (D1 i, P1 i)) :
    ∃ l1 : List S68, l1.length = len ∧ Kd.C k68 w (some a) l1.length l1 ∧ l1.length ≤ cap ∧ l1.length ≤ 9223372036854775807 := by
  have hmax : maxLen = 9223372036854775807 := by decide
  have hv : ∀ i, i < len → ∃ p : S68, V0 i = .int .i64 p.f0 ∧ V1 i = .int .i64 p.f1 := by
    intro i hi
    obtain ⟨_, _, h3, h4⟩ := hrows i (by omega)
    obtain ⟨x, hx, _⟩ := DataW.trod_int ht h3
    obtain ⟨y, hy, _⟩ := DataW.trod_int ht h4
    exact ⟨⟨x, y⟩, by simpa using hx, by simpa using hy⟩
  obtain ⟨f, hf⟩ : ∃ f : Nat → S68, ∀ i, i < len → V0 i = .int .i64 (f i).f0 ∧ V1 i = .int .i64 (f i).f1 :=
    ⟨fun i => open Classical in if h : ∃ p : S68, V0 i = .int .i64 p.f0 ∧ V1 i = .int .i64 p.f1 then h.choose else z68, fun i hi => by simp only [dif_pos (hv i hi)]; exact (hv i hi).choose_spec⟩
  have hlen : ((List.range len).map f).length = len := by simp
  refine ⟨(List.range len).map f, hlen, ⟨rfl, by rw [hlen]; omega, fun hn => ⟨a, rfl, fun j p hj => ?_⟩⟩, by rw [hlen]; exact hl, by rw [hlen]; omega⟩
  rw [List.getElem?_map] at hj
  obtain ⟨j', hj', rfl⟩ := Option.map_eq_some_iff.1 hj
  obtain ⟨hlt, he⟩ := List.getElem?_eq_some_iff.1 hj'
  rw [List.getElem_range] at he
  subst he
  rw [List.length_range] at hlt
  obtain ⟨h1, h2, _, _⟩ := hrows j (by omega)
  obtain ⟨e0, e1⟩ := hf j hlt
  rw [e0] at h1
  rw [e1] at h2
  refine ⟨_, rfl, k68_mk w _, fun i u hu => ?_⟩
  have hi : i < 2 := (List.getElem?_eq_some_iff.mp hu).1
  have h3 : i = 0 ∨ i = 1 := by omega
  rcases h3 with rfl | rfl
  · have : (.int .i64 (f j).f0 : Value) = u := by simpa using hu
    rw [← this]; exact h1
  · have : (.int .i64 (f j).f1 : Value) = u := by simpa using hu
    rw [← this]; exact h2
end Go.Proofs.Ytiimkifkakdalaa.P
namespace Go.Proofs.Ytiimkifkakdalaa.Pure
open Go.RowKit Go.Proofs.Ytiimkifkakdalaa.P Go.Proofs.YtiimkifkakdalaaW.PrintWords Go.Proofs.YtiimkifkakdalaaW.PrintLast
set_option linter.unusedVariables false
set_option linter.unusedSimpArgs false
theorem wop_true (l0 : List S68) (hm : l0.length ≤ 9223372036854775807) : Ev (fun k => laws_FnExactWiringOfPoints.f k l0) true := by
  obtain ⟨z, hz, hzl⟩ := p_sz l0 hm
  unfold laws_FnExactWiringOfPoints.f
  by_cases hneg : z < 0
  · exact Ev.congr (f := fun _ => some true) (fun k => by rw [hz, Option.bind_some, if_pos hneg]) (Ev.now _)
  have hl := hzl hneg
  have hT := p_toS l0 hl
  have hml : (l0.map p_to).length ≤ 1048576 := by rw [List.length_map]; exact hl
  obtain ⟨r, hS, hI, hrl⟩ := p_wop (l0.map p_to) hml
  have hE := p_eqS (l0.map p_to) hml
  obtain ⟨ms, hM⟩ := p_markS (l0.map p_to) hml
  generalize l0.map p_to = y at hT hS hI hE hM hml
  obtain ⟨R, b⟩ := r
  dsimp only at hrl
  have hEI := c_eqIntS_self R hrl
  have hMI := c_markIntS R 1 (by omega) (by omega) hrl
  have hHI := c_heldIntS 1 R.length (by omega) (by omega) hrl
  have hb : (b != b) = false := bne_self_eq_false b
  refine Ev.congr (fun k => by rw [hz, Option.bind_some, if_neg hneg]) ?_
  refine Ev.bind hT (Ev.bind hS (Ev.bind hT (Ev.bind hI (Ev.bind hEI ?_))))
  refine Ev.congr (fun k => if_pos rfl) ?_
  show Ev (fun k => laws_FnExactWiringOfPoints.j0 k l0 R b y R b (b != b)) true
  rw [hb]
  refine Ev.step (f := fun k => (laws_toPointS.f k l0).bind fun t868 => ((laws_eqPointS.f k y t868).bind fun t871 => (if t871 = true then ((laws_markPointS.f k y 1).bind fun bt872 => (if bt872.1 < 0 then (laws_FnExactWiringOfPoints.j1 k l0 R b R true) else ((laws_eqIntS.f k R R).bind fun t874 => (if t874 = true then (laws_FnExactWiringOfPoints.j1 k l0 R b R (b != b)) else (laws_FnExactWiringOfPoints.j1 k l0 R b R true))))) else (some false)))) (fun k => by simp only [laws_FnExactWiringOfPoints.j0]; rw [if_neg (by simp)]) ?_
  refine Ev.bind hT (Ev.bind hE (Ev.congr (fun k => if_pos rfl) ?_))
  refine Ev.bind hM ?_
  refine Ev.congr (fun k => by rw [if_neg (show ¬ ((1 + 2 * (y.length : Int), ms) : Int × List Pt).1 < 0 by simp only; omega)]) ?_
  refine Ev.bind hEI (Ev.congr (fun k => if_pos rfl) ?_)
  rw [hb]
  refine Ev.step (f := fun k => ((laws_markIntS.f k R 1).bind fun bt875 => ((laws_heldIntS.f k bt875.2 1).bind fun t877 => (if t877 < 0 then (some false) else (if t877 = bt875.1 then ((laws_toPointS.f k l0).bind fun t878 => ((impl_WiringOfPoints.f k t878).bind fun bt881 => ((laws_eqIntS.f k bt881.1 R).bind fun t885 => (if t885 = true then (laws_FnExactWiringOfPoints.j2 k bt875.2 bt875.1 (bt881.2 != b)) else (laws_FnExactWiringOfPoints.j2 k bt875.2 bt875.1 true))))) else (some false)))))) (fun k => by simp only [laws_FnExactWiringOfPoints.j1]; rw [if_neg (by simp)]) ?_
  refine Ev.bind hMI (Ev.bind hHI ?_)
  refine Ev.congr (fun k => by rw [if_neg (by omega), if_pos rfl]) ?_
  refine Ev.bind hT (Ev.bind hI (Ev.bind hEI (Ev.congr (fun k => if_pos rfl) ?_)))
  show Ev (fun k => laws_FnExactWiringOfPoints.j2 k (c_marks 1 R.length) (1 + (R.length : Int)) (b != b)) true
  rw [hb]
  refine Ev.step (f := fun k => ((laws_heldIntS.f k (c_marks 1 R.length) 1).bind fun t886 => (if t886 < 0 then (some false) else (if t886 = 1 + (R.length : Int) then (some true) else (some false))))) (fun k => by simp only [laws_FnExactWiringOfPoints.j2]; rw [if_neg (by simp)]) ?_
  refine Ev.bind hHI (Ev.congr (f := fun _ => some true) (fun k => by rw [if_neg (by omega), if_pos rfl]) (Ev.now _))
set_option maxRecDepth 100000 in
theorem FnExactWiringOfPoints (A0 : Option Addr) (c0 : Nat) (l0 : List S68) (w : World) (hr0 : Kd.C k68 w A0 l0.length l0) (hc0 : l0.length ≤ c0) (hm : l0.length ≤ 9223372036854775807) :
    Calls Try.prog 9 #[.slice A0 l0.length c0] w fun e w' => e = .returned (.bool true) ∧ Below w.heap.size w w' := by
  obtain ⟨k, hk⟩ := (wop_true l0 hm).rounds
  exact laws_FnExactWiringOfPoints.calls k A0 c0 l0 w hr0 hc0 hk
end Go.Proofs.Ytiimkifkakdalaa.Pure
