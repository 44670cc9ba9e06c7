/- slices.SortFunc over at most twelve points, compared by impl.SortPoints' closure: one after the other is put into its place. Conditions: as said. -/
import Derived.Test.YtiimkifkakdalaaOSortP
import Derived.Test.YtiimkifkakdalaaOSortE
import Derived.Shelf.Lay
import Derived.Ground.SlsfProg
namespace Go.Proofs
open Go.Shelf
shelf_lay_g SlLaysF0.n6 Slsf 6 at Try 100 as Try.sortPts
end Go.Proofs
namespace Go.Proofs.Ytiimkifkakdalaa.P
open Go.RowKit Go.Sort Go.Proofs.YtiimkifkakdalaaW.PrintWords Go.Proofs.YtiimkifkakdalaaW.PrintLast Go.Proofs.YtiimkifkakdalaaW.PrintMore
set_option linter.unusedVariables false
set_option linter.unusedSimpArgs false

instance : Inhabited S64 := ⟨z64⟩
def encP (x : S64) : List Value := [.int .i64 x.f0, .int .i64 x.f1]
def cfP (x y : S64) : Int := if x.f0 < y.f0 then -1 else if x.f0 > y.f0 then 1 else if x.f1 < y.f1 then -1 else if x.f1 > y.f1 then 1 else 0
theorem cfP_neg (x y : S64) : ltOf cfP x y = decide (x.f0 < y.f0 ∨ (x.f0 = y.f0 ∧ x.f1 < y.f1)) := by
  unfold ltOf cfP
  refine decide_eq_decide.mpr ?_
  repeat' split
  all_goals omega
theorem cfP_swo : SWO (ltOf cfP) where
  irrefl x := by rw [cfP_neg]; exact decide_eq_false (by omega)
  trans x y z h1 h2 := by
    rw [cfP_neg] at *
    have h1 := of_decide_eq_true h1
    have h2 := of_decide_eq_true h2
    exact decide_eq_true (by omega)
  ntrans x y z h1 h2 := by
    rw [cfP_neg] at *
    have h1 := of_decide_eq_false h1
    have h2 := of_decide_eq_false h2
    exact decide_eq_false (by omega)
theorem cmpP (a b : Int) : cmp_Compare_int.f a b = some (if a < b then -1 else if a > b then 1 else 0) := by
  unfold cmp_Compare_int.f cmp_isNaN_int.f
  simp only [bne_self_eq_false, Option.bind_some, Bool.false_eq_true, if_false]
  repeat' split
  all_goals rfl
theorem cfP_val (x y : S64) : impl_SortPoints_1.f 4 x.f0 x.f1 y.f0 y.f1 = some (cfP x y) := by
  unfold impl_SortPoints_1.f cfP
  rw [cmpP, cmpP]
  simp only [Option.bind_some]
  have e0 : ∀ a b : Int, rd [a, b] 0 = a := fun _ _ => rfl
  have e1 : ∀ a b : Int, rd [a, b] 1 = b := fun _ _ => rfl
  have w0 : wrap64 ((0 : Int) + 1) = 1 := by unfold wrap64; omega
  have w1 : wrap64 ((1 : Int) + 1) = 2 := by unfold wrap64; omega
  have hor : ∀ a b : Int, cmp_Or_int.f 4 [a, b] = some (if a = 0 then (if b = 0 then 0 else b) else a) := by
    intro a b
    unfold cmp_Or_int.f
    simp only [cmp_Or_int.l0, List.length_cons, List.length_nil, e0, w0, e1, w1]
    by_cases ha : a = 0
    · by_cases hb : b = 0
      · simp [ha, hb]
      · simp [ha, hb]
    · simp [ha]
  rw [hor]
  simp only [Option.bind_some]
  congr 1
  repeat' split
  all_goals omega
theorem flat_eq {l : List S64} {inner : List Value} (hl : inner.length = l.length * 2) (h : ∀ j p, l[j]? = some p → (inner.drop (j * 2)).take 2 = encP p) : inner = (flatK encP 2 l.toArray).toList := by
  refine List.ext_getElem (by simp [flatK, hl]) (fun t h1 h2 => ?_)
  have hj : t / 2 < l.length := by omega
  have hp := h (t / 2) _ (List.getElem?_eq_getElem hj)
  have e : inner[t] = ((inner.drop (t / 2 * 2)).take 2)[t % 2]'(by rw [hp]; simp [encP]; omega) := by
    rw [List.getElem_take, List.getElem_drop]
    congr 1; omega
  have e2 : (flatK encP 2 l.toArray).toList[t] = (encP l.toArray[t / 2]!)[t % 2]! := by
    simp [flatK]
  rw [e, e2]
  have e3 : l.toArray[t / 2]! = l[t / 2] := by simp [hj]
  rw [e3]
  have h3 : t % 2 < (encP l[t / 2]).length := by simp [encP]; omega
  rw [getElem!_pos (encP l[t / 2]) (t % 2) h3]
  congr 1
set_option maxRecDepth 100000 in
theorem sort_cmpP (w : World) (g n : Nat) : CmpLays Try.prog 101 #[] encP 2 cfP g 0 n w := by
  intro m os dk _ x y
  have := SortPoints_1.grows 4 x.f0 x.f1 y.f0 y.f1 _ (sortWorldK encP 2 w g 0 m dk os) (cfP_val x y)
  exact this
theorem reps_pts (w : World) (base : Nat) (ok : Nat → Prop) (l : List S64) : Reps (k64.M w base ok) 2 l (flatK encP 2 l.toArray).toList := by
  refine ⟨by simp [flatK], fun j p hp => ?_⟩
  have hj := (List.getElem?_eq_some_iff.mp hp).1
  have e : ((flatK encP 2 l.toArray).toList.drop (j * 2)).take 2 = [.int .i64 p.f0, .int .i64 p.f1] := by
    have hpe : l[j] = p := (List.getElem?_eq_some_iff.mp hp).2
    refine List.ext_getElem (by simp [flatK]; omega) (fun t h1 h2 => ?_)
    have ht : t < 2 := h2
    have g : (flatK encP 2 l.toArray).toList[j * 2 + t]'(by simp [flatK]; omega) = (encP l.toArray[(j * 2 + t) / 2]!)[(j * 2 + t) % 2]! := by simp [flatK]
    rw [List.getElem_take, List.getElem_drop, g, show (j * 2 + t) / 2 = j by omega, show (j * 2 + t) % 2 = t by omega]
    have e3 : l.toArray[j]! = p := by simp [hj, hpe]
    rw [e3]
    have : t = 0 ∨ t = 1 := by omega
    rcases this with rfl | rfl <;> rfl
  rw [e]
  exact k64_mkM _ _ _ _
set_option maxHeartbeats 2000000 in
set_option maxRecDepth 100000 in
theorem SortFunc_pts.calls (v : Value) (l : List S64) (w0 w : World) (P0 : Nat → Prop) (hB : Below w0.heap.size w0 w) (hS : Kd.R k64 64 w w0.heap.size P0 v l) (hpos : 0 < l.length) (hlen : l.length ≤ 12) :
    Calls Try.prog 100 #[v, .func (.func 101) #[] #[]] w fun e w' => e = .returned (.tuple #[]) ∧ Kd.R k64 64 w' w0.heap.size P0 v (bSort (ltOf cfP) l) ∧ Below w0.heap.size w0 w' := by
  obtain ⟨hok, inner, ho, hr⟩ := hS
  have he : inner = (flatK encP 2 l.toArray).toList := flat_eq hr.1 (fun j p hp => k64_openM (hr.2 j p hp))
  subst he
  rcases ho.2 with ⟨_, h0⟩ | ⟨g, cap, cur, rfl, hg, hb, h1, h2, h3, h4⟩
  · omega
  · have hgl : g < w.heap.size := (Array.getElem?_eq_some_iff.1 hb).1
    have h3' : cur.size = cap * 2 := h3
    have h4' : cur.toList.take (l.length * 2) = (flatK encP 2 l.toArray).toList := h4
    have hH : HoldsK encP 2 w g 0 l.toArray := by
      have := holds_of_blockE (enc := fun v : Value => v) (ss := (flatK encP 2 l.toArray).toList) hb (by rw [List.map_id', Array.length_toList, size_flatK]; exact h4')
      rw [Array.toArray_toList] at this
      exact this
    have eg : ∀ args w, (callFunc 101 args).run Try.prog w = .ok (.enter 101 args) w := enters_of Try.func101 (by kernel_rfl) rfl
    have hcon := AnyQ.slices_SortFunc_eq Try.sortPts 2 (fun _ => rfl) (fun _ => rfl) encP (fun _ => rfl) (fun x v hv => by unfold encP at hv; simp only [List.mem_cons, List.not_mem_nil, or_false] at hv; rcases hv with rfl | rfl <;> rfl) cfP cfP_swo 101 #[] g 0 cap l.toArray w eg (sort_cmpP w g _) hH hgl (by simp; omega)
    rw [List.size_toArray, b_pdq (ltOf cfP) l hlen] at hcon
    refine hcon.mono ?_
    rintro e w' ⟨rfl, n, os, rfl⟩
    have hl2 : (bSort (ltOf cfP) l).length = l.length := (bSort_perm _ _).length_eq
    have hgr := grownBy_sortedE (enc := fun v : Value => v) (w := w) (g := g) (n := n) (os := os) (flatK encP 2 (bSort (ltOf cfP) l).toArray)
    have hhp := heap_sortedE (enc := fun v : Value => v) (n := n) (os := os) (flatK encP 2 (bSort (ltOf cfP) l).toArray) hb
    have htk := take_putCellsE (enc := fun v : Value => v) cur (flatK encP 2 (bSort (ltOf cfP) l).toArray).toList (by rw [Array.length_toList, size_flatK, h3']; simp only [List.size_toArray]; omega)
    rw [Array.toArray_toList, List.map_id'] at htk
    refine ⟨rfl, ⟨hok, (flatK encP 2 (bSort (ltOf cfP) l).toArray).toList, ⟨by rw [Array.length_toList, size_flatK]; rfl, .inr ⟨g, cap, _, by rw [hl2], hg, hhp, by rw [hl2]; exact h1, h2, by simp [putCells, h3], ?_⟩⟩, reps_pts _ _ _ _⟩, hB.grown hgr (below_size hB) (fun k hk => ?_)⟩
    · have e5 : (flatK encP 2 (bSort (ltOf cfP) l).toArray).toList.length = (bSort (ltOf cfP) l).length * 2 := by simp [flatK]
      rw [e5] at htk
      exact htk
    · have : some g = some k := hk
      rw [← Option.some.inj this]; exact hg
def impl_SortPoints.f (k : Nat) (l0 : List S64) : Option (List S64) := (impl_ArePoints.f k l0).bind fun b => if b = true then (slices_Clone_pts.f l0).bind fun y => if 0 < y.length ∧ y.length ≤ 12 then some (bSort (ltOf cfP) y) else none else some []
theorem impl_SortPoints.mono : ∀ a0 k, LeO (impl_SortPoints.f k a0) (impl_SortPoints.f (k + 1) a0) := by
  intro a0 k
  unfold impl_SortPoints.f
  repeat' first
    | exact impl_ArePoints.mono _ _
    | exact LeO.refl _
    | refine LeO.bind ?_ (fun _ => ?_)
    | refine LeO.ite ?_ ?_
set_option maxHeartbeats 8000000 in
set_option maxRecDepth 100000 in
theorem impl_SortPoints.calls (k : Nat) (A0 : Option Addr) (c0 : Nat) (l0 r : List S64) (w : World) (hr0 : Kd.C k64 w A0 l0.length l0) (hc0 : l0.length ≤ c0) (h : impl_SortPoints.f k l0 = some r) :
    Calls Try.prog 57 #[.slice A0 l0.length c0] w fun e w' => ∃ v0_ : Value, e = .returned (v0_) ∧ Kd.R k64 64 w' w.heap.size (fun _ => True) v0_ r ∧ Below w.heap.size w w' := by
  have HB := Aside0.mk (Below.refl w.heap.size w)
  have HR := Aside0.mk (And.intro hr0 hc0)
  clear hr0 hc0
  have H := h
  clear h
  unfold impl_SortPoints.f at H
  replace H := Option.bind_eq_some_iff.mp H
  obtain ⟨b, A1, H⟩ := H
  replace A1 := Aside0.mk A1
  cases b with
  | false =>
    rw [if_neg (by simp)] at H
    obtain rfl := Option.some.inj H
    clear H
    go_enter Try.func57, Try.ntmps57
    go_wp2_with (first | (go_at_call 56; (with_reducible refine (impl_ArePoints.calls k _ _ l0 false _ HR.out.1 HR.out.2 A1.out).mono ?_); rintro e w6 ⟨rfl, hb6⟩; replace HB := bs HB hb6))
    go_ret
    exact ⟨_, rfl, Kd.R_nil .., bl HB⟩
  | true =>
    rw [if_pos rfl] at H
    replace H := Option.bind_eq_some_iff.mp H
    obtain ⟨y, A2, H⟩ := H
    replace A2 := Aside0.mk A2
    by_cases hy : 0 < y.length ∧ y.length ≤ 12
    case neg => rw [if_neg hy] at H; exact absurd H (by simp)
    rw [if_pos hy] at H
    obtain rfl := Option.some.inj H
    clear H
    replace hy := Aside0.mk hy
    go_enter Try.func57, Try.ntmps57
    go_wp2_with (first | (go_at_call 56; (with_reducible refine (impl_ArePoints.calls k _ _ l0 true _ HR.out.1 HR.out.2 A1.out).mono ?_); rintro e w6 ⟨rfl, hb6⟩; replace HB := bs HB hb6; have HR6 := Aside0.mk (Kd.C_below HR.out.1 hb6)) | (go_at_call 99; (with_reducible refine (slices_Clone_pts.calls _ _ l0 y _ HR6.out HR.out.2 A2.out).mono ?_); rintro e w7 ⟨v7, rfl, ho7, hb7⟩; have HO := Aside0.mk (Kd.R_lower ho7 (below_size (bl HB))); replace HB := bs HB hb7) | (go_at_call 100; (with_reducible refine (SortFunc_pts.calls v7 y w _ (fun _ => True) (bl HB) HO.out hy.out.1 hy.out.2).mono ?_); rintro e w8 ⟨rfl, ho8, hb8⟩))
    go_ret
    exact ⟨_, rfl, ho8, hb8⟩

end Go.Proofs.Ytiimkifkakdalaa.P
