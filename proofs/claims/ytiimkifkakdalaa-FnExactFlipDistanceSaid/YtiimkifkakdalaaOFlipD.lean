/- impl.FlipDistance: what a call of it computes. Conditions: none. -/
import Derived.Test.YtiimkifkakdalaaWAll2
import Derived.Test.YtiimkifkakdalaaOFlips
import Derived.Maps.Own
import Derived.Maps.OwnOps
import Derived.Maps.OwnSet
import Derived.Maps.Views
namespace Go.Proofs.Ytiimkifkakdalaa.P
open Go.RowKit Go.Proofs.YtiimkifkakdalaaW.PrintWords Go.Proofs.YtiimkifkakdalaaW.PrintLast Go.Proofs.YtiimkifkakdalaaW.PrintMore
set_option linter.unusedVariables false
set_option linter.unusedSimpArgs false

/-- What is known: numbers with their distances; the last told counts. -/
def fdLook (F : List (Int × Int)) (x : Int) : Option Int := F.foldl (fun o p => if p.1 = x then some p.2 else o) none
def fdAdd (q : Int) (F : List (Int × Int)) (x : Int) : List (Int × Int) := if (fdLook F x).isSome = true then F else F ++ [(x, wrap64 ((fdLook F q).getD 0 + 1))]
def fdWf (x : Int) : Bool := (Lit.int .i64 x).wf
def impl_FlipDistance.l0 : Nat → List Int → Int → List (Int × Int) → Nat → Option Int
  | 0, _, _, _, _ => none
  | k + 1, rows, b, F, i => if i < F.length then (if (F.getD i (0, 0)).1 = b then some ((fdLook F b).getD 0) else ((impl_plane_flips.f k rows (F.getD i (0, 0)).1).bind fun nb => if nb.all fdWf = true ∧ F.length + nb.length < 1000000000 then impl_FlipDistance.l0 k rows b (nb.foldl (fdAdd (F.getD i (0, 0)).1) F) (i + 1) else none)) else some (-1)
def impl_FlipDistance.f (k : Nat) (n : Int) (s : ByteArray) (a b : Int) : Option Int := (impl_IsTriangulation.f k n s a).bind fun t => if t = true then ((impl_IsTriangulation.f k n s b).bind fun u => if u = true then ((impl_planeOf.f k n s).bind fun r => if r.2 = true ∧ fdWf a = true ∧ fdWf b = true then impl_FlipDistance.l0 k r.1.1 b [(a, 0)] 0 else none) else some (-1)) else some (-1)
theorem impl_FlipDistance.mono_l : ∀ k, (∀ y0 y1 y2 y3, LeO (impl_FlipDistance.l0 k y0 y1 y2 y3) (impl_FlipDistance.l0 (k + 1) y0 y1 y2 y3))
  | 0 => fun _ _ _ _ r h => by simp [impl_FlipDistance.l0] at h
  | k + 1 => by
    have ih0 := impl_FlipDistance.mono_l k
    intro y0 y1 y2 y3
    unfold impl_FlipDistance.l0
    refine LeO.ite (LeO.ite (LeO.refl _) ?_) (LeO.refl _)
    exact LeO.bind (impl_plane_flips.mono _ _ _) (fun _ => LeO.ite (ih0 _ _ _ _) (LeO.refl _))
theorem impl_FlipDistance.mono : ∀ a0 a1 a2 a3 k, LeO (impl_FlipDistance.f k a0 a1 a2 a3) (impl_FlipDistance.f (k + 1) a0 a1 a2 a3) := by
  intro a0 a1 a2 a3 k
  unfold impl_FlipDistance.f
  refine LeO.bind (impl_IsTriangulation.mono _ _ _ _) (fun _ => LeO.ite ?_ (LeO.refl _))
  refine LeO.bind (impl_IsTriangulation.mono _ _ _ _) (fun _ => LeO.ite ?_ (LeO.refl _))
  exact LeO.bind (impl_planeOf.mono _ _ _) (fun _ => LeO.ite (impl_FlipDistance.mono_l k _ _ _ _) (LeO.refl _))
/-- The map, as it is read. -/
def fdMap (F : List (Int × Int)) : DataW Unit := F.foldl (fun m p => m.put (.int .i64 p.1) (.lit (.int .i64 p.2))) (.map [])
theorem fdLook_snoc (F : List (Int × Int)) (p : Int × Int) (x : Int) : fdLook (F ++ [p]) x = if p.1 = x then some p.2 else fdLook F x := by simp [fdLook, List.foldl_append]
theorem fdMap_snoc (F : List (Int × Int)) (p : Int × Int) : fdMap (F ++ [p]) = (fdMap F).put (.int .i64 p.1) (.lit (.int .i64 p.2)) := by simp [fdMap, List.foldl_append]
theorem fdMap_is (F : List (Int × Int)) : Go.Maps.IsMap (fdMap F) := by
  have : ∀ (F : List (Int × Int)) (m : DataW Unit), Go.Maps.IsMap m → Go.Maps.IsMap (F.foldl (fun m p => m.put (.int .i64 p.1) (.lit (.int .i64 p.2))) m) := by
    intro F
    induction F with
    | nil => intro m hm; exact hm
    | cons p F ih => intro m hm; exact ih _ (hm.put _ _)
  exact this F _ Go.Maps.isMap_empty
theorem fd_read (x : Int) : ∀ (n : Nat) (F : List (Int × Int)), F.length = n → (fdMap F).atKey (.int .i64 x) (.lit (.int .i64 0)) = .lit (.int .i64 ((fdLook F x).getD 0)) ∧ Go.Maps.has (fdMap F) (.int .i64 x) = (fdLook F x).isSome := by
  intro n
  induction n with
  | zero =>
    intro F hF
    obtain rfl := List.eq_nil_of_length_eq_zero hF
    exact ⟨rfl, rfl⟩
  | succ n ih =>
    intro F hF
    have hne : F ≠ [] := fun h => by rw [h] at hF; simp at hF
    obtain ⟨G, p, rfl⟩ : ∃ G p, F = G ++ [p] := ⟨F.dropLast, F.getLast hne, (List.dropLast_concat_getLast hne).symm⟩
    have hG := ih G (by simpa using hF)
    rw [fdMap_snoc, fdLook_snoc]
    by_cases h : p.1 = x
    · rw [if_pos h, h]
      exact ⟨Go.Maps.atKey_put_same (fdMap_is G) (show Go.WideAt.IsKeyLit (.int .i64 x) from trivial) _ _, Go.Maps.has_put_same (fdMap_is G) (show Go.WideAt.IsKeyLit (.int .i64 x) from trivial) _⟩
    · rw [if_neg h]
      have hk : (Lit.int .i64 x) ≠ (Lit.int .i64 p.1) := fun he => by injection he with _ he; exact h he.symm
      rw [Go.Maps.atKey_put_other hk, Go.Maps.has_put_other hk]
      exact hG
theorem fdAdd_look (q : Int) (F : List (Int × Int)) (x : Int) (h : (fdLook F x).isSome = true) : fdAdd q F x = F := if_pos h
theorem fdAdd_new (q : Int) (F : List (Int × Int)) (x : Int) (h : (fdLook F x).isSome = false) : fdAdd q F x = F ++ [(x, wrap64 ((fdLook F q).getD 0 + 1))] := if_neg (by rw [h]; simp)
/-- What the inner loop keeps. -/
theorem fd_fold (q : Int) : ∀ (nb : List Int) (F : List (Int × Int)), (nb.all fdWf = true) → (∀ p ∈ F, fdWf p.1 = true) → ∃ E : List (Int × Int), nb.foldl (fdAdd q) F = F ++ E ∧ E.length ≤ nb.length ∧ ∀ p ∈ nb.foldl (fdAdd q) F, fdWf p.1 = true := by
  intro nb
  induction nb with
  | nil => intro F _ hF; exact ⟨[], by simp, by simp, hF⟩
  | cons x nb ih =>
    intro F hn hF
    rw [List.all_cons, Bool.and_eq_true] at hn
    have hF1 : ∀ p ∈ fdAdd q F x, fdWf p.1 = true := by
      unfold fdAdd
      split
      · exact hF
      · intro p hp
        rcases List.mem_append.mp hp with hp | hp
        · exact hF p hp
        · rw [List.mem_singleton.mp hp]; exact hn.1
    obtain ⟨E, h1, h2, h3⟩ := ih (fdAdd q F x) hn.2 hF1
    rw [List.foldl_cons]
    by_cases h : (fdLook F x).isSome = true
    · rw [fdAdd_look q F x h] at h1 h3 ⊢
      exact ⟨E, h1, by rw [List.length_cons]; omega, h3⟩
    · rw [fdAdd_new q F x (by simpa using h)] at h1 h3 ⊢
      exact ⟨_ :: E, by rw [h1, List.append_assoc]; rfl, by rw [List.length_cons, List.length_cons]; omega, h3⟩
/-- The entry of a map's literal. -/
theorem wpList_insert_own {P : Program} (w : World) {ops : Array Oper} {rest : List Oper} {o : Oper} {a : Act} {Q : Exit → Act → World → Prop}
    (hg : o.guard = none) (m x v : Operand) (t : TypeId) (hop : o.op = Op.insert t m x v)
    (k e : TypeId) (K : Go.Maps.Keyed P k) (ht : P.underlying t = some (.map k e)) (R : Value → Option (DataW Unit × List MemPlace)) (b n : Nat) (D : DataW Unit)
    (hm : a.eval m = .map (some b)) (hown : w.ownsMap P k R b n D) (hn : n < maxLen) (key val : Value) (kl : Lit) (hx : a.eval x = key) (hv : a.eval v = val) (hkey : keyOf P k key = some kl)
    (d : DataW Unit) (ps : List MemPlace) (hval : R val = some (d, ps))
    (hK : ∀ w', w'.ownsMap P k R b (n + 1) (D.put kl d) → w.grownBy w' (some b) → wpList P ops Q rest (a.put o.dst undef) w') : wpList P ops Q (o :: rest) a w := by
  refine wpList_plain hg fun K' hK' => ?_
  obtain ⟨w', hrun, r1, r2⟩ := hown.update K ht hn hkey hval
  unfold Oper.wp
  simp [execOp, hop, hm, hx, hv, hrun, Result.andThen]
  exact hK' _ _ (hK w' r1 r2)
theorem fdLaw : Go.Maps.Keyed Try.prog 3 := Go.Maps.int_keyed Try.underlying3
theorem fdZero (w : World) : (zeroValue 3).run Try.prog w = .ok (.int .i64 0) w := by kernel_rfl
set_option maxHeartbeats 8000000 in
set_option maxRecDepth 100000 in
theorem impl_FlipDistance.calls (k : Nat) (a0_0 : Int) (a0_1 : ByteArray) (a1 a2 : Int) (r : Int) (w : World) (h : impl_FlipDistance.f k a0_0 a0_1 a1 a2 = some r) :
    Calls Try.prog 26 #[.agg #[.int .i64 a0_0, .string a0_1], .int .i64 a1, .int .i64 a2] w fun e w' => e = .returned (.int .i64 r) ∧ Below w.heap.size w w' := by
  have HB := Aside0.mk (Below.refl w.heap.size w)
  have H := h
  clear h
  unfold impl_FlipDistance.f at H
  replace H := Option.bind_eq_some_iff.mp H
  obtain ⟨b, A1, H⟩ := H
  replace A1 := Aside0.mk A1
  cases b with
  | false =>
    simp only [Bool.false_eq_true, if_false] at H
    obtain rfl := Option.some.inj H
    clear H
    go_enter Try.func26, Try.ntmps26
    go_wp2_with (first | ((with_reducible refine gate_dst (N := 3) rfl ?_); refine box_event ?hg (N := 3) ?hd (cs := #[.int .i64 a0_0, .string a0_1]) (t := 27) ?hr ?_; (case hd => rfl); (case hg => rfl); (case hr => first | (go_simp; done) | (go_simp; rfl)); intro g3 hg w3 hbox hb; have n0_ := Aside0.mk (below_step (by repeat (first | (with_reducible first | exact HB.out | apply below_alloc | apply pw_below_drewN | apply below_drew1) | exact HB.out)) hb); have GE3 := Aside0.mk ((by rw [hg]; exact (below_size (by repeat (first | (with_reducible first | exact HB.out | apply below_alloc | apply pw_below_drewN | apply below_drew1) | exact HB.out)))) : w.heap.size ≤ g3); have BK3 := Aside0.mk hbox; clear HB; have HB := n0_; clear n0_ hb hbox hg; have hcz3_0 : w3.cell? ⟨g3, 0, none⟩ = some (.int .i64 a0_0) := (blk_cell BK3.out 0).trans rfl; have hfz3_0 := blk_frozen BK3.out 0; have hcz3_1 : w3.cell? ⟨g3, 1, none⟩ = some (.string a0_1) := (blk_cell BK3.out 1).trans rfl; have hfz3_1 := blk_frozen BK3.out 1) | ((with_reducible refine gate_callee (f := 49) rfl ?_); refine goesL_ (some 17) rfl rfl Try.func49 (by kernel_rfl) rfl #[.agg #[.int .i64 a0_0, .string a0_1], .int .i64 a1] rfl (by (try simp only [List.map_toArray, List.map_cons, List.map_nil]); first | done | rfl | (simp only [List.length_drop, List.length_take]; rfl)) ?_; (with_reducible refine (impl_IsTriangulation.calls k a0_0 a0_1 a1 _ _ A1.out).mono ?_); rintro e w5 ⟨rfl, hb⟩; refine ⟨_, rfl, ?_⟩; have n9_ := Aside0.mk (blk_below (g := g3) (o := .cells #[.int .i64 a0_0, .string a0_1] 27 (0, 0)) (by (with_reducible repeat (first | refine blk_drewN ?_ _ | refine blk_drew ?_ | refine blk_alloc ?_ _)); exact BK3.out) hb); clear BK3; have BK3 := n9_; clear n9_; have hcz3w5_0 : w5.cell? ⟨g3, 0, none⟩ = some (.int .i64 a0_0) := (blk_cell BK3.out 0).trans rfl; have hfz3w5_0 := blk_frozen BK3.out 0; have hcz3w5_1 : w5.cell? ⟨g3, 1, none⟩ = some (.string a0_1) := (blk_cell BK3.out 1).trans rfl; have hfz3w5_1 := blk_frozen BK3.out 1; replace HB := bs HB hb; clear hb))
    go_ret
    exact ⟨rfl, bl HB⟩
  | true =>
    simp only [if_true] at H
    replace H := Option.bind_eq_some_iff.mp H
    obtain ⟨b2, A2, H⟩ := H
    replace A2 := Aside0.mk A2
    cases b2 with
    | false =>
      simp only [Bool.false_eq_true, if_false] at H
      obtain rfl := Option.some.inj H
      clear H
      go_enter Try.func26, Try.ntmps26
      go_wp2_with (first | ((with_reducible refine gate_dst (N := 3) rfl ?_); refine box_event ?hg (N := 3) ?hd (cs := #[.int .i64 a0_0, .string a0_1]) (t := 27) ?hr ?_; (case hd => rfl); (case hg => rfl); (case hr => first | (go_simp; done) | (go_simp; rfl)); intro g3 hg w3 hbox hb; have n0_ := Aside0.mk (below_step (by repeat (first | (with_reducible first | exact HB.out | apply below_alloc | apply pw_below_drewN | apply below_drew1) | exact HB.out)) hb); have GE3 := Aside0.mk ((by rw [hg]; exact (below_size (by repeat (first | (with_reducible first | exact HB.out | apply below_alloc | apply pw_below_drewN | apply below_drew1) | exact HB.out)))) : w.heap.size ≤ g3); have BK3 := Aside0.mk hbox; clear HB; have HB := n0_; clear n0_ hb hbox hg; have hcz3_0 : w3.cell? ⟨g3, 0, none⟩ = some (.int .i64 a0_0) := (blk_cell BK3.out 0).trans rfl; have hfz3_0 := blk_frozen BK3.out 0; have hcz3_1 : w3.cell? ⟨g3, 1, none⟩ = some (.string a0_1) := (blk_cell BK3.out 1).trans rfl; have hfz3_1 := blk_frozen BK3.out 1) | ((with_reducible refine gate_callee (f := 49) rfl ?_); refine goesL_ (some 17) rfl rfl Try.func49 (by kernel_rfl) rfl #[.agg #[.int .i64 a0_0, .string a0_1], .int .i64 a1] rfl (by (try simp only [List.map_toArray, List.map_cons, List.map_nil]); first | done | rfl | (simp only [List.length_drop, List.length_take]; rfl)) ?_; (with_reducible refine (impl_IsTriangulation.calls k a0_0 a0_1 a1 _ _ A1.out).mono ?_); rintro e w5 ⟨rfl, hb⟩; refine ⟨_, rfl, ?_⟩; have n9_ := Aside0.mk (blk_below (g := g3) (o := .cells #[.int .i64 a0_0, .string a0_1] 27 (0, 0)) (by (with_reducible repeat (first | refine blk_drewN ?_ _ | refine blk_drew ?_ | refine blk_alloc ?_ _)); exact BK3.out) hb); clear BK3; have BK3 := n9_; clear n9_; have hcz3w5_0 : w5.cell? ⟨g3, 0, none⟩ = some (.int .i64 a0_0) := (blk_cell BK3.out 0).trans rfl; have hfz3w5_0 := blk_frozen BK3.out 0; have hcz3w5_1 : w5.cell? ⟨g3, 1, none⟩ = some (.string a0_1) := (blk_cell BK3.out 1).trans rfl; have hfz3w5_1 := blk_frozen BK3.out 1; replace HB := bs HB hb; clear hb) | (go_at_call 49; (with_reducible refine (impl_IsTriangulation.calls k a0_0 a0_1 a2 _ _ A2.out).mono ?_); rintro e w6 ⟨rfl, hb⟩; have n9_ := Aside0.mk (blk_below (g := g3) (o := .cells #[.int .i64 a0_0, .string a0_1] 27 (0, 0)) (by (with_reducible repeat (first | refine blk_drewN ?_ _ | refine blk_drew ?_ | refine blk_alloc ?_ _)); exact BK3.out) hb); clear BK3; have BK3 := n9_; clear n9_; have hcz3w6_0 : w6.cell? ⟨g3, 0, none⟩ = some (.int .i64 a0_0) := (blk_cell BK3.out 0).trans rfl; have hfz3w6_0 := blk_frozen BK3.out 0; have hcz3w6_1 : w6.cell? ⟨g3, 1, none⟩ = some (.string a0_1) := (blk_cell BK3.out 1).trans rfl; have hfz3w6_1 := blk_frozen BK3.out 1; replace HB := bs HB hb; clear hb))
      go_ret
      exact ⟨rfl, bl HB⟩
    | true =>
      simp only [if_true] at H
      replace H := Option.bind_eq_some_iff.mp H
      obtain ⟨⟨⟨t1, t2⟩, t4⟩, A4, H⟩ := H
      replace A4 := Aside0.mk A4
      by_cases hc : t4 = true ∧ fdWf a1 = true ∧ fdWf a2 = true
      case neg => simp only [if_neg hc] at H; exact absurd H (by simp)
      simp only [if_pos hc] at H
      obtain ⟨rfl, hw1, hw2⟩ := hc
      have HW := Aside0.mk (And.intro hw1 hw2)
      have H' := Aside0.mk H
      have hmm := @run_makeMap Try.prog
      clear H hw1 hw2
      go_enter Try.func26, Try.ntmps26
      go_wp2_with (first
        | ((with_reducible refine gate_dst (N := 3) rfl ?_); refine box_event ?hg (N := 3) ?hd (cs := #[.int .i64 a0_0, .string a0_1]) (t := 27) ?hr ?_; (case hd => rfl); (case hg => rfl); (case hr => first | (go_simp; done) | (go_simp; rfl)); intro g3 hg w3 hbox hb; have n0_ := Aside0.mk (below_step (by repeat (first | (with_reducible first | exact HB.out | apply below_alloc | apply pw_below_drewN | apply below_drew1) | exact HB.out)) hb); have GE3 := Aside0.mk ((by rw [hg]; exact (below_size (by repeat (first | (with_reducible first | exact HB.out | apply below_alloc | apply pw_below_drewN | apply below_drew1) | exact HB.out)))) : w.heap.size ≤ g3); have BK3 := Aside0.mk hbox; clear HB; have HB := n0_; clear n0_ hb hbox hg; have hcz3_0 : w3.cell? ⟨g3, 0, none⟩ = some (.int .i64 a0_0) := (blk_cell BK3.out 0).trans rfl; have hfz3_0 := blk_frozen BK3.out 0; have hcz3_1 : w3.cell? ⟨g3, 1, none⟩ = some (.string a0_1) := (blk_cell BK3.out 1).trans rfl; have hfz3_1 := blk_frozen BK3.out 1)
        | ((with_reducible refine gate_callee (f := 49) rfl ?_); refine goesL_ (some 17) rfl rfl Try.func49 (by kernel_rfl) rfl #[.agg #[.int .i64 a0_0, .string a0_1], .int .i64 a1] rfl (by (try simp only [List.map_toArray, List.map_cons, List.map_nil]); first | done | rfl | (simp only [List.length_drop, List.length_take]; rfl)) ?_; (with_reducible refine (impl_IsTriangulation.calls k a0_0 a0_1 a1 _ _ A1.out).mono ?_); rintro e w5 ⟨rfl, hb⟩; refine ⟨_, rfl, ?_⟩; have n9_ := Aside0.mk (blk_below (g := g3) (o := .cells #[.int .i64 a0_0, .string a0_1] 27 (0, 0)) (by (with_reducible repeat (first | refine blk_drewN ?_ _ | refine blk_drew ?_ | refine blk_alloc ?_ _)); exact BK3.out) hb); clear BK3; have BK3 := n9_; clear n9_; have hcz3w5_0 : w5.cell? ⟨g3, 0, none⟩ = some (.int .i64 a0_0) := (blk_cell BK3.out 0).trans rfl; have hfz3w5_0 := blk_frozen BK3.out 0; have hcz3w5_1 : w5.cell? ⟨g3, 1, none⟩ = some (.string a0_1) := (blk_cell BK3.out 1).trans rfl; have hfz3w5_1 := blk_frozen BK3.out 1; replace HB := bs HB hb; clear hb)
        | (go_at_call 49; (with_reducible refine (impl_IsTriangulation.calls k a0_0 a0_1 a2 _ _ A2.out).mono ?_); rintro e w6 ⟨rfl, hb⟩; have n9_ := Aside0.mk (blk_below (g := g3) (o := .cells #[.int .i64 a0_0, .string a0_1] 27 (0, 0)) (by (with_reducible repeat (first | refine blk_drewN ?_ _ | refine blk_drew ?_ | refine blk_alloc ?_ _)); exact BK3.out) hb); clear BK3; have BK3 := n9_; clear n9_; have hcz3w6_0 : w6.cell? ⟨g3, 0, none⟩ = some (.int .i64 a0_0) := (blk_cell BK3.out 0).trans rfl; have hfz3w6_0 := blk_frozen BK3.out 0; have hcz3w6_1 : w6.cell? ⟨g3, 1, none⟩ = some (.string a0_1) := (blk_cell BK3.out 1).trans rfl; have hfz3w6_1 := blk_frozen BK3.out 1; replace HB := bs HB hb; clear hb)
        | ((with_reducible refine gate_callee (f := 50) rfl ?_); refine goesL_ (some 27) rfl rfl Try.func50 (by kernel_rfl) rfl #[.agg #[.int .i64 a0_0, .string a0_1]] rfl (by (try simp only [List.map_toArray, List.map_cons, List.map_nil]); first | done | rfl | (simp only [List.length_drop, List.length_take]; rfl)) ?_; (with_reducible refine (impl_planeOf.calls k a0_0 a0_1 _ _ A4.out).mono ?_); rintro e w4 ⟨p4, rfl, hp, hb⟩; refine ⟨_, rfl, ?_⟩; obtain ⟨g4, rfl, hI⟩ := hp.2 rfl; have HI := Aside0.mk hI; clear hp hI; have HB0 := bs HB hb; clear HB hb)
        | (refine wpList_insert_own _ rfl (.tmp 30) (.tmp 31) _ 59 rfl 3 3 fdLaw Try.underlying59 _ w4.heap.size 0 (.map []) rfl (World.ownsMap_made _ _ _ _) (by unfold maxLen; omega) _ _ (.int .i64 a1) rfl rfl (Go.Maps.keyOf_int_mk Try.underlying3 HW.out.1) (.lit (.int .i64 0)) [] (plainElem_int Try.underlying3 (by decide)) ?_; intro w7 hm7 hg7; have HM := Aside0.mk hm7; have HB4 := Aside0.mk ((below_alloc (Below.refl w4.heap.size w4) _).grown hg7 (Nat.le_of_lt (by rw [World.size_alloc]; omega)) (fun k hk => by injection hk with hk; omega)); clear hm7 hg7)
        | ((with_reducible refine gate_dst (N := 34) rfl ?_); refine Kd.R_lit (Kd.int .i64) _ 3 ?hg (N := 34) ?hd (xs := ([a1] : List Int)) (inner := [.int .i64 a1]) (ok := fun _ => True) (okp := fun _ => True) ?hr ?hp (fun _ hk => hk) trivial (Below.refl _ _) (Nat.le_refl _) (by simp) ?_; (case hd => rfl); (case hg => rfl); (case hr => first | (go_simp; done) | (go_simp; rfl)); (case hp => exact Reps.one rfl (Reps.none _ _)); intro v34 w8 ho8 hb8 hg_ hnew_; clear hg_ hnew_; have n0_ := Aside0.mk (World.ownsMap.kept HM.out (grown_of_below hb8 none) (by simp)); have HO := Aside0.mk (Kd.Q_mono (Kd.Q_of_R (Kd.R_lower (Kd.R_bound ho8) HB4.out.size)) (ok' := fun k => k ≠ w4.heap.size) (fun k hk => by have := hk.2.1; have := HM.out.lt; omega)); have n1_ := bs HB4 hb8; clear HB4 HM ho8 hb8; have HB4 := n1_; have HM := n0_; clear n0_ n1_))
      go_loopg [10] k (fun kq v10 w' => ∃ (F : List (Int × Int)) (i : Nat), Aside0 (impl_FlipDistance.l0 kq t1 a2 F i = some r) ∧ Aside0 (kq ≤ k) ∧ Aside0 (∀ p ∈ F, fdWf p.1 = true) ∧ Aside0 (Kd.Q (Kd.int .i64) 3 w' w4.heap.size (fun k => k ≠ w4.heap.size) v10 ((F.drop i).map (·.1))) ∧ Aside0 (w'.ownsMap Try.prog 3 (plainElem Try.prog 3) w4.heap.size F.length (fdMap F)) ∧ Aside0 (Below w4.heap.size w4 w'))
      case atStart => exact ⟨[(a1, 0)], 0, H', ⟨Nat.le_refl _⟩, ⟨fun p hp => by rw [List.mem_singleton.mp hp]; exact HW.out.1⟩, HO, HM, HB4⟩
      case round =>
        clear H' HO HM HB4 hmm
        obtain ⟨F, i, HA, HK1, HF, HQ, HM, HB5⟩ := hrel
        have HP := Aside0.mk (PlaneAt.below HI.out HB5.out)
        cases gk with
        | zero => exact absurd HA.out (by simp [impl_FlipDistance.l0])
        | succ k1 =>
          have H := HA.out
          clear HA
          simp only [impl_FlipDistance.l0] at H
          by_cases c4 : i < F.length
          case neg =>
            rw [if_neg c4] at H
            obtain rfl := Option.some.inj H
            have hx : (F.drop i).map (·.1) = [] := by rw [List.drop_eq_nil_of_le (by omega)]; rfl
            rw [hx] at HQ
            obtain ⟨Aq, cq, e10, _⟩ := Kd.Q_slice HQ.out
            subst e10
            clear hx c4 H
            go_wp2
            go_ret
            exact ⟨rfl, below_then HB0.out HB0.out.size HB5.out⟩
          case pos =>
            rw [if_pos c4] at H
            obtain ⟨q, hq⟩ : ∃ z : Int, (F.getD i (0, 0)).1 = z := ⟨_, rfl⟩
            rw [hq] at H
            obtain ⟨xs, hxs⟩ : ∃ z : List Int, (F.drop i).map (·.1) = z := ⟨_, rfl⟩
            rw [hxs] at HQ
            have hx1 : xs = q :: (F.drop (i + 1)).map (·.1) := by
              rw [← hxs, List.drop_eq_getElem_cons c4, List.map_cons, ← hq, List.getD_eq_getElem?_getD, List.getElem?_eq_getElem c4]
              rfl
            have hxl : (0 : Int) < (xs.length : Int) := by rw [hx1, List.length_cons]; omega
            have hq0 : rd xs 0 = q := by rw [hx1]; rfl
            obtain ⟨Aq, cq, e10, _⟩ := Kd.Q_slice HQ.out
            subst e10
            obtain ⟨ad, e0, hcl⟩ := Kd.at_int (Kd.Q_reads' HQ.out).2.2 0 (by omega) hxl
            subst e0
            rw [hq0] at hcl
            replace hcl : wr.cell? ad = some (.int .i64 q) := by simpa [Addr.add] using hcl
            have c4d : decide ((xs.length : Int) > 0) = true := decide_eq_true hxl
            have HX := Aside0.mk (And.intro hx1 (And.intro hq0 (And.intro hxs (And.intro c4 hq))))
            have hwq := HF.out (F.getD i (0, 0)) (by rw [List.getD_eq_getElem?_getD, List.getElem?_eq_getElem c4]; exact List.getElem_mem _)
            rw [hq] at hwq
            have HWq := Aside0.mk hwq
            clear hx1 hq0 hxs c4 hq hwq
            by_cases c5 : q = a2
            case pos =>
              rw [if_pos c5] at H
              have H1 := Option.some.inj H
              subst c5
              clear H
              have c5b : (q == q) = true := beq_self_eq_true q
              go_wp2_with (first
                | (at_lookup; refine wpList_lookup_own_int _ rfl (.tmp 45) (.tmp 46) 59 rfl 3 3 .i64 fdLaw Try.underlying59 Try.underlying3 (fdZero _) w4.heap.size F.length (fdMap F) rfl HM.out (.int .i64 q) _ rfl (Go.Maps.keyOf_int_mk Try.underlying3 HW.out.2) ?_; intro c hc hwc; rw [(fd_read q _ F rfl).1, H1] at hc; obtain rfl : r = c := (by injection hc with hc; injection hc); clear hc hwc))
              go_ret
              exact ⟨rfl, below_then HB0.out HB0.out.size HB5.out⟩
            case neg =>
              rw [if_neg c5] at H
              have c5b : (a2 == q) = false := beq_eq_false_iff_ne.mpr (fun h => c5 h.symm)
              clear c5
              replace H := Option.bind_eq_some_iff.mp H
              obtain ⟨nb, A6, H⟩ := H
              by_cases c6 : nb.all fdWf = true ∧ F.length + nb.length < 1000000000
              case neg => rw [if_neg c6] at H; exact absurd H (by simp)
              rw [if_pos c6] at H
              have H' := Aside0.mk H
              have A6' := Aside0.mk A6
              have HN := Aside0.mk c6
              clear H A6 c6
              go_wp2_with (first
                | ((with_reducible refine gate_callee (f := 51) rfl ?_); refine goesL_ (some 52) rfl rfl Try.func51 (by kernel_rfl) rfl #[.pointer (some ⟨g4, 0, none⟩), .int .i64 q] rfl (by (try simp only [List.map_toArray, List.map_cons, List.map_nil]); first | done | rfl | (simp only [List.length_drop, List.length_take]; rfl)) ?_; (with_reducible refine (impl_plane_flips.calls k1 g4 t1 t2 q nb _ HP.out A6'.out).mono ?_); rintro e w6 ⟨v5, rfl, ho, hb⟩; refine ⟨_, rfl, ?_⟩; obtain ⟨Anb, cnb, rfl⟩ := Kd.R_slice ho; have HNB := Aside0.mk (Kd.R_mono (ok' := fun k => k ≠ w4.heap.size ∧ some k ≠ (Value.slice (some ad) xs.length cq).ownBlock) (Kd.R_lower (Kd.R_bound ho) (Nat.le_trans (Nat.le_of_lt HM.out.lt) (Nat.le_refl _) |> fun _ => HB5.out.size)) (fun k hk => ⟨by have := hk.2.1; have := HM.out.lt; omega, fun he => by have := ((Kd.Q_bound HQ.out).1 k he.symm).2.2.1; have := hk.2.1; omega⟩)); have n0_ := Aside0.mk (Kd.Q_elder' HQ.out (fun k hk => ((Kd.R_bound ho).1 k hk).2.1) hb); have n1_ := Aside0.mk (World.ownsMap.kept HM.out (grown_of_below hb none) (by simp)); have n2_ := bs HB5 hb; replace hcl := pw_cell_below hb hcl; clear HQ HM HB5 ho hb HP; have HQ := n0_; have HM := n1_; have HB5 := n2_; clear n0_ n1_ n2_))
              clear c4d hxl hcl
              go_loopg [10, 54] nb.length (fun gg v10 v54 w'' => ∃ (j : Nat), v54 = .int .i64 j ∧ Aside0 (j ≤ nb.length ∧ nb.length - j ≤ gg) ∧ Aside0 (Kd.Q (Kd.int .i64) 3 w'' w4.heap.size (fun k => k ≠ w4.heap.size ∧ some k ≠ (Value.slice Anb nb.length cnb).ownBlock) v10 ((((nb.take j).foldl (fdAdd q) F).drop i).map (·.1))) ∧ Aside0 (Kd.R (Kd.int .i64) 3 w'' w4.heap.size (fun k => k ≠ w4.heap.size ∧ some k ≠ (v10 : Value).ownBlock) (.slice Anb nb.length cnb) nb) ∧ Aside0 (w''.ownsMap Try.prog 3 (plainElem Try.prog 3) w4.heap.size ((nb.take j).foldl (fdAdd q) F).length (fdMap ((nb.take j).foldl (fdAdd q) F))) ∧ Aside0 (Below w4.heap.size w4 w''))
              case atStart => exact ⟨0, rfl, ⟨Nat.zero_le _, Nat.le_refl _⟩, ⟨by rw [show nb.take 0 = [] from rfl]; simp only [List.foldl_nil]; rw [HX.out.2.2.1]; exact HQ.out⟩, HNB, HM, HB5⟩
              case round =>
                clear HQ HNB HM HB5
                obtain ⟨j, rfl, HJ, HQ, HNB, HM, HB5⟩ := hrel
                obtain ⟨J, hJ⟩ : ∃ z : Int, (j : Int) = z := ⟨_, rfl⟩
                rw [hJ]
                have hfold := fd_fold q (nb.take j) F (by rw [List.all_eq_true]; intro y hy; exact List.all_eq_true.mp HN.out.1 y (List.mem_of_mem_take hy)) HF.out
                obtain ⟨G, hG⟩ : ∃ z, (nb.take j).foldl (fdAdd q) F = z := ⟨_, rfl⟩
                rw [hG] at hfold HQ HM
                obtain ⟨E, hGE, hEl, hGw⟩ := hfold
                have hGl : G.length = F.length + E.length := by rw [hGE, List.length_append]
                have hEl2 : E.length ≤ nb.length := by rw [List.length_take] at hEl; omega
                have hcF := HX.out.2.2.2.1
                obtain ⟨xs2, hxs2⟩ : ∃ z : List Int, (G.drop i).map (·.1) = z := ⟨_, rfl⟩
                rw [hxs2] at HQ
                have hx1 : xs2 = q :: (G.drop (i + 1)).map (·.1) := by
                  rw [← hxs2, List.drop_eq_getElem_cons (by omega), List.map_cons, ← HX.out.2.2.2.2, List.getD_eq_getElem?_getD, List.getElem?_eq_getElem hcF]
                  subst hGE
                  rw [List.getElem_append_left hcF]
                  rfl
                have hxl : (0 : Int) < (xs2.length : Int) := by rw [hx1, List.length_cons]; omega
                have hq0 : rd xs2 0 = q := by rw [hx1]; rfl
                have HX2 := Aside0.mk (And.intro hx1 (And.intro hxs2 (And.intro hJ hG)))
                have HGl := Aside0.mk (show G.length < 1000000000 ∧ xs2.length ≤ G.length from ⟨by have := HN.out.2; omega, by rw [← hxs2, List.length_map, List.length_drop]; omega⟩)
                have HGw := Aside0.mk hGw
                clear hGE hEl hGl hEl2 hcF hGw
                have hjr : j < nb.length ∨ j = nb.length := by have := HJ.out; omega
                rcases hjr with hj | hj
                case inr =>
                  have hd : decide (J < (nb.length : Int)) = false := decide_eq_false (by omega)
                  have HJ2 := Aside0.mk hj
                  clear hj hJ hq0 hxs2 hG
                  obtain ⟨Aq2, cq2, e10, hcl⟩ := Kd.Q_slice HQ.out
                  subst e10
                  obtain ⟨i0, hi0, _, hsz0, _⟩ := info_parts info3
                  have hcut := cut_from (P := Try.prog) 25 3 .i64 Try.underlying25 hi0 1 hsz0 Aq2 xs2.length cq2 1 (by omega) (by omega)
                  have hr := Kd.Q_drop (k := (1 : Int).toNat) HQ.out (by have : (1 : Int).toNat = 1 := rfl; omega)
                  obtain ⟨A3, hA3⟩ : ∃ z, z = (if cq2 = (1 : Int).toNat then Aq2 else Aq2.map (·.add ((1 : Int).toNat * 1))) := ⟨_, rfl⟩
                  obtain ⟨c3, hc3⟩ : ∃ z, z = cq2 - (1 : Int).toNat := ⟨_, rfl⟩
                  obtain ⟨n3, hn3⟩ : ∃ z, z = xs2.length - (1 : Int).toNat := ⟨_, rfl⟩
                  rw [← hA3, ← hc3, ← hn3] at hcut
                  have HR3 := Aside0.mk (show Kd.Q (Kd.int .i64) 3 _ w4.heap.size (fun k => k ≠ w4.heap.size) (.slice A3 n3 c3) ((G.drop (i + 1)).map (·.1)) from by
                    rw [hA3, hc3, hn3]
                    have h2 := Kd.Q_mono hr (ok' := fun k => k ≠ w4.heap.size) (fun k hk => hk.1)
                    rw [hx1] at h2 ⊢
                    exact h2)
                  clear hr hi0 hsz0 hA3 hc3 hn3 hcl hx1 hxl
                  go_wp2
                  go_roundg k1
                  case measure => have := HK1.out; omega
                  case rel =>
                    have e1 : G = nb.foldl (fdAdd q) F := by have h := HX2.out.2.2.2; rw [HJ2.out, List.take_length] at h; exact h.symm
                    refine ⟨G, i + 1, ⟨by rw [e1]; exact H'.out⟩, ⟨by have := HK1.out; omega⟩, HGw, HR3, HM, HB5⟩
                case inl =>
                  have hd : decide (J < (nb.length : Int)) = true := decide_eq_true (by omega)
                  have hJ0 : 0 ≤ J := by omega
                  have hJ1 : J < (nb.length : Int) := by omega
                  obtain ⟨ad5, e5, hcl5⟩ := Kd.at_int (Kd.R_reads' HNB.out).2.2 J hJ0 hJ1
                  subst e5
                  obtain ⟨x, hx⟩ : ∃ z : Int, rd nb J = z := ⟨_, rfl⟩
                  rw [hx] at hcl5
                  have hxn : nb[j]? = some x := by
                    rw [← hx, List.getElem?_eq_getElem hj]
                    have : J.toNat = j := by omega
                    unfold rd
                    rw [this]
                    simp [List.getD_eq_getElem?_getD, List.getElem?_eq_getElem hj]
                  have hwx : fdWf x = true := List.all_eq_true.mp HN.out.1 x (List.mem_of_getElem? hxn)
                  have HWx := Aside0.mk hwx
                  have hfs : (nb.take (j + 1)).foldl (fdAdd q) F = fdAdd q G x := by
                    rw [List.take_add_one, hxn, List.foldl_append, hG]
                    rfl
                  have HFS := Aside0.mk hfs
                  have HJJ := Aside0.mk (show wrap64 (J + 1) = ((j + 1 : Nat) : Int) from by have := HN.out.2; unfold wrap64; omega)
                  have HJ3 := Aside0.mk hj
                  obtain ⟨Aq2, cq2, e10, _⟩ := Kd.Q_slice HQ.out
                  subst e10
                  obtain ⟨ad2, e0, hcl2⟩ := Kd.at_int (Kd.Q_reads' HQ.out).2.2 0 (by omega) hxl
                  subst e0
                  rw [hq0, show ((0 : Int)).toNat = 0 from rfl, Addr.add_zero'] at hcl2
                  have hJ0' := eq_true hJ0
                  have hJ1' := eq_true hJ1
                  have HBS := Aside0.mk HB5.out.size
                  clear hj hJ hx1 hxs2 hG hx hxn hwx hfs hq0 hJ0 hJ1
                  cases hs : (fdLook G x).isSome with
                  | true =>
                    have HS := Aside0.mk hs
                    clear hs
                    go_wp2_with (first
                      | (at_lookup; refine wpList_lookup_own_ok_int _ rfl (.tmp 59) (.tmp 60) 59 rfl 3 3 .i64 fdLaw Try.underlying59 Try.underlying3 (fdZero _) w4.heap.size G.length (fdMap G) rfl HM.out (.int .i64 x) _ rfl (Go.Maps.keyOf_int_mk Try.underlying3 HWx.out) ?_; intro c hc hwc; rw [(fd_read x _ G rfl).2, HS.out]; clear hc hwc))
                    go_roundg (nb.length - (j + 1))
                    case measure => have := HJ.out; have := HJ3.out; omega
                    case rel =>
                      have hjj := HJJ.out
                      refine ⟨j + 1, by first | exact congrArg (Value.int .i64) hjj | rfl, ⟨by have := HJ3.out; omega, Nat.le_refl _⟩, ⟨?_⟩, HNB, ⟨?_⟩, HB5⟩
                      · rw [HFS.out, fdAdd_look q G x HS.out, HX2.out.2.1]; exact HQ.out
                      · rw [HFS.out, fdAdd_look q G x HS.out]; exact HM.out
                  | false =>
                    have HS := Aside0.mk hs
                    clear hs
                    obtain ⟨y, hy⟩ : ∃ z : Int, (fdLook G q).getD 0 = z := ⟨_, rfl⟩
                    have HY := Aside0.mk hy
                    clear hy
                    go_wp2_with (first
                      | (at_lookup; refine wpList_lookup_own_ok_int _ rfl (.tmp 59) (.tmp 60) 59 rfl 3 3 .i64 fdLaw Try.underlying59 Try.underlying3 (fdZero _) w4.heap.size G.length (fdMap G) rfl HM.out (.int .i64 x) _ rfl (Go.Maps.keyOf_int_mk Try.underlying3 HWx.out) ?_; intro c hc hwc; rw [(fd_read x _ G rfl).2, HS.out]; clear hc hwc)
                      | (at_lookup; refine wpList_lookup_own_int _ rfl (.tmp 68) (.tmp 71) 59 rfl 3 3 .i64 fdLaw Try.underlying59 Try.underlying3 (fdZero _) w4.heap.size G.length (fdMap G) rfl HM.out (.int .i64 q) _ rfl (Go.Maps.keyOf_int_mk Try.underlying3 HWq.out) ?_; intro c hc hwc; rw [(fd_read q _ G rfl).1, HY.out] at hc; obtain rfl : y = c := (by injection hc with hc; injection hc); clear hc hwc)
                      | (at_mapUpdate; refine wpList_mapUpdate_own _ rfl (.tmp 66) (.tmp 67) (.tmp 73) 59 rfl 3 3 fdLaw Try.underlying59 _ w4.heap.size G.length (fdMap G) rfl HM.out (by have := HGl.out.1; unfold maxLen; omega) (.int .i64 x) _ (.int .i64 x) rfl rfl (Go.Maps.keyOf_int_mk Try.underlying3 HWx.out) (.lit (.int .i64 (wrap64 (y + 1)))) [] (plainElem_int Try.underlying3 (wrap64_wf _)) ?_; intro w7 hm7 hg7; have n0_ := Aside0.mk (Kd.Q_grown HQ.out hg7 (fun k hk he => hk.1 (Option.some.inj he))); have n1_ := Aside0.mk (Kd.R_grown HNB.out hg7 (fun k hk he => hk.1 (Option.some.inj he))); have n2_ := Aside0.mk (HB5.out.grown hg7 HBS.out (fun k hk => by injection hk with hk; omega)); have n3_ := Aside0.mk n2_.out.size; clear HQ HNB HB5 HM HBS; have HQ := n0_; have HNB := n1_; have HB5 := n2_; have HBS := n3_; have HM := Aside0.mk hm7; clear n0_ n1_ n2_ n3_ hm7 hg7)
                      | ((with_reducible refine gate_builtin (b := .append) (xs := #[.tmp 74, .tmp 76]) rfl ?_); at_builtin; refine Kd.Q_append (Kd.int .i64) (w0 := w4) w4.heap.size rfl (.tmp 74) (.tmp 76) 25 3 (.int .i64 0) 8 rfl Try.underlying25 info3 rfl (by decide) (by omega) (Value.slice (some ad2) xs2.length cq2) xs2 x [.int .i64 x] (fun k => k ≠ w4.heap.size ∧ some k ≠ (Value.slice (some ad5) nb.length cnb).ownBlock) (fun _ => False) rfl rfl rfl (fun _ hk => hk.elim) (fun k hk => ⟨by have := HM.out.lt; omega, fun he => by have := ((Kd.R_bound HNB.out).1 k he.symm).2.2.1; omega⟩) HQ.out HB5.out HBS.out ?aL ?_; (case aL => have := HGl.out; omega); intro v1 w8 ho hb hg hat; have n0_ := Aside0.mk (Kd.R_after (ok := fun k => k ≠ w4.heap.size) HNB.out hg hat); have n1_ := Aside0.mk (World.ownsMap.kept HM.out hg (fun he => (HQ.out.1 _ he.symm).1 rfl)); clear HQ HNB HB5 HM HBS; have HQ := Aside0.mk ho; have HB5 := Aside0.mk hb; have HNB := n0_; have HM := n1_; clear ho hb hg hat n0_ n1_))
                    go_roundg (nb.length - (j + 1))
                    case measure => have := HJ.out; have := HJ3.out; omega
                    case rel =>
                      have hjj := HJJ.out
                      have e1 : (nb.take (j + 1)).foldl (fdAdd q) F = G ++ [(x, wrap64 (y + 1))] := by rw [HFS.out, fdAdd_new q G x HS.out, HY.out]
                      refine ⟨j + 1, by first | exact congrArg (Value.int .i64) hjj | rfl, ⟨by have := HJ3.out; omega, Nat.le_refl _⟩, ⟨?_⟩, HNB, ⟨?_⟩, HB5⟩
                      · have hl : i ≤ G.length := by have := HX2.out.1; have h2 := HX2.out.2.1; rw [← h2] at this; have h3 := congrArg List.length this; rw [List.length_map, List.length_drop, List.length_cons] at h3; omega
                        rw [e1, List.drop_append_of_le_length hl, List.map_append, HX2.out.2.1]
                        exact HQ.out
                      · rw [e1, fdMap_snoc, List.length_append]; exact HM.out

end Go.Proofs.Ytiimkifkakdalaa.P
