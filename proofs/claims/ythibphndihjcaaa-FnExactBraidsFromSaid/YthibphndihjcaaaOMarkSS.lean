/- laws.markIntSS: what a call of it computes, and what it writes. Conditions: the rows are owned. -/
import Derived.Test.YthibphndihjcaaaWAll2
import Derived.Test.YthibphndihjcaaaP26
namespace Go.Proofs.Ythibphndihjcaaa.P
open Go.RowKit Go.Proofs.YthibphndihjcaaaW.PrintWords Go.Proofs.YthibphndihjcaaaW.PrintLast Go.Proofs.YthibphndihjcaaaW.PrintMore
set_option linter.unusedVariables false
set_option linter.unusedSimpArgs false

def laws_markIntSS.l0 : Nat → List (List Int) → Int → Int → Option (Int × List (List Int))
  | 0, _, _, _ => none
  | k + 1, x0, x1, x5 => if x5 < (x0.length : Int) then (if 0 ≤ x5 then ((laws_markIntS.f k (x0.getD x5.toNat []) x1).bind fun bt => laws_markIntSS.l0 k (x0.set x5.toNat bt.2) bt.1 (wrap64 (x5 + 1))) else none) else some (x1, x0)
def laws_markIntSS.f (k : Nat) (l0 : List (List Int)) (a1 : Int) : Option (Int × List (List Int)) := laws_markIntSS.l0 k l0 a1 0
theorem laws_markIntSS.mono_l : ∀ k, (∀ y0 y1 y2, LeO (laws_markIntSS.l0 k y0 y1 y2) (laws_markIntSS.l0 (k + 1) y0 y1 y2))
  | 0 => fun _ _ _ r h => by simp [laws_markIntSS.l0] at h
  | k + 1 => by
    have ih0 := laws_markIntSS.mono_l k
    intro y0 y1 y2
    unfold laws_markIntSS.l0
    repeat' first
      | (with_reducible exact ih0 _ _ _)
      | (with_reducible exact laws_markIntS.mono _ _ _)
      | (with_reducible exact LeO.refl _)
      | (with_reducible refine LeO.ite ?_ ?_)
      | (with_reducible refine LeO.bind ?_ (fun _ => ?_))
theorem laws_markIntSS.mono : ∀ a0 a1 k, LeO (laws_markIntSS.f k a0 a1) (laws_markIntSS.f (k + 1) a0 a1) := fun a0 a1 k => laws_markIntSS.mono_l k _ _ _
set_option maxHeartbeats 8000000 in
set_option maxRecDepth 100000 in
theorem laws_markIntSS.calls (k : Nat) (P0_ : Nat → Prop) (u9000_ : Value) (l0 : List (List Int)) (a1 : Int) (r1 : Int) (r2 : List (List Int)) (w0 w : World) (hB : Below w0.heap.size w0 w) (ho0 : Kd.S (Kd.slice 3 (Kd.int .i64)) 22 w w0.heap.size P0_ u9000_ l0) (h : laws_markIntSS.f k l0 a1 = some (r1, r2)) :
    Calls Try.prog 27 #[u9000_, .int .i64 a1] w fun e w' => e = .returned (.int .i64 r1) ∧ Kd.S (Kd.slice 3 (Kd.int .i64)) 22 w' w0.heap.size (fun k_ => (P0_ k_ ∨ w.heap.size ≤ k_)) u9000_ r2 ∧ Below w0.heap.size w0 w' ∧ Kept w w' (fun k_ => P0_ k_) := by
  have HO := Aside0.mk (show Kd.S (Kd.slice 3 (Kd.int .i64)) 22 w w0.heap.size (fun k_ => (P0_ k_ ∨ w.heap.size ≤ k_)) u9000_ l0 from Kd.S_mono ho0 (fun k_ hk => (.inl hk)))
  have HK := Aside0.mk (Kept.refl w (fun k_ => P0_ k_))
  have HB := Aside0.mk hB
  have H' := Aside0.mk (show laws_markIntSS.l0 k l0 a1 0 = some (r1, r2) from h)
  obtain ⟨A0, c0, eu⟩ := Kd.S_slice ho0
  subst eu
  clear ho0 hB h
  obtain ⟨n0, hn0⟩ : ∃ n0 : Nat, l0.length = n0 := ⟨_, rfl⟩
  rw [hn0] at HO ⊢
  go_enter Try.func27, Try.ntmps27
  go_wp2
  go_loopg [1, 5] k (fun kq v1 v5 w' => ∃ (x : Int) (rows : List (List Int)) (i : Int), v1 = .int .i64 x ∧ v5 = .int .i64 i ∧ Aside0 (rows.length = n0) ∧ Aside0 (laws_markIntSS.l0 kq rows x i = some (r1, r2)) ∧ Aside0 (kq ≤ k) ∧ Aside0 (Kd.S (Kd.slice 3 (Kd.int .i64)) 22 w' w0.heap.size (fun k_ => (P0_ k_ ∨ w.heap.size ≤ k_)) (.slice A0 n0 c0) rows) ∧ Aside0 (Below w0.heap.size w0 w') ∧ Aside0 (Kept w w' (fun k_ => P0_ k_)))
  case atStart => exact ⟨a1, l0, 0, rfl, rfl, ⟨hn0⟩, H', ⟨Nat.le_refl _⟩, HO, HB, HK⟩
  case round =>
    clear H' HO HB HK hn0
    obtain ⟨x, rows, i, rfl, rfl, HN, HA, HK1, HO, HB, HK⟩ := hrel
    cases gk with
    | zero => exact absurd HA.out (by simp [laws_markIntSS.l0])
    | succ k1 =>
      have H := HA.out
      clear HA
      simp only [laws_markIntSS.l0, HN.out] at H
      by_cases c4 : i < (n0 : Int)
      · rw [if_pos c4] at H
        have c4b : decide (i < (n0 : Int)) = true := decide_eq_true c4
        by_cases c5 : 0 ≤ i
        · rw [if_pos c5] at H
          replace H := Option.bind_eq_some_iff.mp H
          obtain ⟨⟨t1, t2⟩, A5, H⟩ := H
          replace A5 := Aside0.mk A5
          have H' := Aside0.mk H
          clear H
          obtain ⟨g, cap, eg, hg1, hg2, hg3⟩ := Kd.S_form HO.out (by have := HN.out; omega)
          cases eg
          obtain ⟨oki, c, hcl, ⟨v, rfl, hR⟩, hcc, hoki, hH⟩ := Kd.S_lend HO.out [] i c5 c4
          have hcell := hcc 0 v rfl
          have HX := Aside0.mk (And.intro hR (And.intro hoki hH))
          have c5b := eq_true c5
          have c4c := eq_true c4
          clear c4 c5 hR hcc hoki hH hcl hg1 hg2 hg3
          simp only [show (Kd.slice 3 (Kd.int .i64)).sz = 1 from rfl, Nat.mul_one, Nat.add_zero] at hcell
          go_wp2_with (first | (go_at_call 26; (with_reducible refine (laws_markIntS.calls k1 oki v _ x t1 t2 w0 _ HB.out HX.out.1 A5.out).mono ?_); rintro e w6 ⟨rfl, hR6, hb6, hk6⟩))
          go_roundg k1
          case measure => have := HK1.out; omega
          case rel =>
            refine ⟨t1, rows.set i.toNat t2, _, rfl, (by first | rfl | (simp; done)), ⟨by rw [List.length_set]⟩, H', ⟨by have := HK1.out; omega⟩, ⟨?_⟩, ⟨hb6⟩, ⟨HK.out.then_ hk6 (fun k_ hk => (HX.out.2.1 k_ hk).1)⟩⟩
            exact Kd.H_back (Kd.H_kept (Kd.H_widen HX.out.2.2) hk6 (fun k_ _ h2 h3 => h2 (.inl h3))) ⟨v, rfl, hR6⟩ (fun k_ hk => hk.elim .inl (fun h2 => .inr ⟨.inr (Nat.le_trans HK.out.1 h2), h2⟩))
        · rw [if_neg c5] at H
          exact absurd H (by simp)
      · rw [if_neg c4] at H
        have c4b : decide (i < (n0 : Int)) = false := decide_eq_false c4
        clear c4
        have H2 := Option.some.inj H
        cases H2
        clear H
        go_wp2
        go_ret
        exact ⟨rfl, HO.out, HB.out, HK.out⟩

end Go.Proofs.Ythibphndihjcaaa.P
