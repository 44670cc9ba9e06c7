-- Printed by a program of this session (wip/tools/myprint.py, over the kit's print.py); not trusted: Lean checks it.
import Derived.Test.YtjjfjdejhddcnaaP0
import Derived.Test.YtjjfjdejhddcnaaP55
namespace Go.Proofs.Ytjjfjdejhddcnaa.P
open Go.RowKit Go.Proofs.YtjjfjdejhddcnaaW.PrintWords Go.Proofs.YtjjfjdejhddcnaaW.PrintLast Go.Proofs.YtjjfjdejhddcnaaW.PrintMore
attribute [local go_sem] max2_int min2_int max_two min_two max_three min_three max_four min_four   -- for this text's walks alone
set_option linter.unusedVariables false
set_option linter.unusedSimpArgs false

/-! ### spec_l10All: function 70 -/
def spec_l10All.f : Nat → List Int → Int → Int → List Int → Option (List Int)
 | 0, _, _, _, _ => none
 | k + 1, l0, a1, a2, l3 => if a1 < 0 then ((spec_l10Full.f k l0 a2).bind fun t591 => (if t591 = true then (if l3.length < 17592186044416 then (some (l3 ++ [a2])) else (none)) else (some l3))) else (if 0 ≤ a1 then (if a1 < (l0.length : Int) then (if (rd l0 a1) = 0 then (if (Go.bits .and .i64 (rd l0 a1) a2) = 0 then (if 0 ≤ (IntKind.u64.wrap (a1)) then ((spec_l10All.f k l0 (wrap64 (a1 - 1)) (wrap64 (a2 + (shl .i64 1 (IntKind.u64.wrap (a1))))) l3).bind fun t597 => (some t597)) else (none)) else (some l3)) else ((spec_l10All.f k l0 (wrap64 (a1 - 1)) a2 l3).bind fun t600 => (if (Go.bits .and .i64 (rd l0 a1) a2) = 0 then (if 0 ≤ (IntKind.u64.wrap (a1)) then ((spec_l10All.f k l0 (wrap64 (a1 - 1)) (wrap64 (a2 + (shl .i64 1 (IntKind.u64.wrap (a1))))) t600).bind fun t604 => (some t604)) else (none)) else (some t600)))) else (none)) else (none))
theorem spec_l10All.mono_l : ∀ k, (∀ y0 y1 y2 y3, LeO (spec_l10All.f k y0 y1 y2 y3) (spec_l10All.f (k + 1) y0 y1 y2 y3))
 | 0 => fun _ _ _ _ r h => by simp [spec_l10All.f] at h
 | k + 1 => by
  have ih0 := spec_l10All.mono_l k
  ·intro y0 y1 y2 y3
   unfold spec_l10All.f
   repeat' first
   | (with_reducible exact ih0 _ _ _ _)
   | (with_reducible exact spec_l10Full.mono _ _ _)
   | (with_reducible exact LeO.refl _)
   | (with_reducible exact LeO.none _)
   | (with_reducible refine LeO.ite ?_ ?_)
   | (with_reducible refine LeO.bind ?_ (fun _ => ?_))
   | exact ih0 _ _ _ _
   | exact spec_l10Full.mono _ _ _
   | exact LeO.none _
   | refine LeO.ite ?_ ?_
   | refine LeO.bind ?_ (fun _ => ?_)
theorem spec_l10All.mono : ∀ a0 a1 a2 a3 k, LeO (spec_l10All.f k a0 a1 a2 a3) (spec_l10All.f (k + 1) a0 a1 a2 a3) := by
 intro a0 a1 a2 a3 k
 have ih0 := spec_l10All.mono_l k
 exact ih0 a0 a1 a2 a3
set_option maxHeartbeats 8000000 in
set_option maxRecDepth 100000 in
theorem spec_l10All.calls (k : Nat) : ∀ (A0 : Option Addr) (c0 : Nat) (l0 : List Int) (a1 : Int) (a2 : Int) (P3_ : Nat → Prop) (u9000_ : Value) (l3 : List Int) (r : List Int) (w0 w : World) (hB : Below w0.heap.size w0 w) (hr0 : ∀ W_, Kept w W_ (fun k_ => P3_ k_) → Kd.C (Kd.int .i64) W_ A0 l0.length l0) (hc0 : l0.length ≤ c0) (ho3 : Kd.R (Kd.int .i64) 3 w w0.heap.size P3_ u9000_ l3) (h : spec_l10All.f k l0 a1 a2 l3 = some r),
  Calls Try.prog 70 #[.slice A0 l0.length c0, .int .i64 a1, .int .i64 a2, u9000_] w fun e w' => ∃ v0_ : Value, e = .returned (v0_) ∧ Kd.R (Kd.int .i64) 3 w' w0.heap.size (fun k_ => (P3_ k_ ∨ w.heap.size ≤ k_)) v0_ r ∧ Below w0.heap.size w0 w' ∧ Kept w w' (fun k_ => P3_ k_) := by
 induction k using Nat.strongRecOn with
 | _ k ih =>
 intro A0 c0 l0 a1 a2 P3_ u9000_ l3 r w0 w hB hr0 hc0 ho3 h
 cases k with
 | zero => exact absurd h (by simp [spec_l10All.f])
 | succ k =>
 simp only [spec_l10All.f] at h
 have HR0 := Aside0.mk hr0
 have HC0 := Aside0.mk hc0
 clear hr0 hc0
 have HO3 := Aside0.mk (show Kd.R (Kd.int .i64) 3 w w0.heap.size (fun k_ => (P3_ k_ ∨ w.heap.size ≤ k_)) u9000_ l3 from Kd.R_mono ho3 (fun k_ hk => (.inl hk)))
 have HK := Aside0.mk (Kept.refl w (fun k_ => P3_ k_))
 have HW0 := Aside0.mk hB.size
 have HB := Aside0.mk hB
 clear hB
 have H : (if a1 < 0 then ((spec_l10Full.f k l0 a2).bind fun t591 => (if t591 = true then (if l3.length < 17592186044416 then (some (l3 ++ [a2])) else (none)) else (some l3))) else (if 0 ≤ a1 then (if a1 < (l0.length : Int) then (if (rd l0 a1) = 0 then (if (Go.bits .and .i64 (rd l0 a1) a2) = 0 then (if 0 ≤ (IntKind.u64.wrap (a1)) then ((spec_l10All.f k l0 (wrap64 (a1 - 1)) (wrap64 (a2 + (shl .i64 1 (IntKind.u64.wrap (a1))))) l3).bind fun t597 => (some t597)) else (none)) else (some l3)) else ((spec_l10All.f k l0 (wrap64 (a1 - 1)) a2 l3).bind fun t600 => (if (Go.bits .and .i64 (rd l0 a1) a2) = 0 then (if 0 ≤ (IntKind.u64.wrap (a1)) then ((spec_l10All.f k l0 (wrap64 (a1 - 1)) (wrap64 (a2 + (shl .i64 1 (IntKind.u64.wrap (a1))))) t600).bind fun t604 => (some t604)) else (none)) else (some t600)))) else (none)) else (none))) = some r := h
 clear h
 by_cases c5 : a1 < 0
 ·rw [if_pos c5] at H
  have c5b0 : decide (a1 < 0) = true := decide_eq_true c5
  clear c5
  replace H := Option.bind_eq_some_iff.mp H
  obtain ⟨t591, A60, H⟩ := H
  (try dsimp only at H)
  have A6 := Aside0.mk A60
  clear A60
  by_cases c7 : t591 = true
  ·subst c7
   have H1 : (if l3.length < 17592186044416 then (some (l3 ++ [a2])) else (none)) = some r := by rw [if_pos rfl] at H; exact H
   clear H
   have H := H1
   clear H1
   by_cases c8 : l3.length < 17592186044416
   ·rw [if_pos c8] at H
    have LMc8 := Aside0.mk c8
    clear c8
    obtain ⟨y592, hy592⟩ : ∃ y_ : List Int, y_ = (l3 ++ [a2]) := ⟨_, rfl⟩
    replace H : (some y592) = some r := by first | (rw [hy592]; with_reducible exact H) | (have H2_ := (Option.bind_some _ _).symm.trans H; rw [hy592]; with_reducible exact H2_) | (have H2_ := (Option.bind_some _ _).symm.trans H; with_reducible exact H2_) | with_reducible exact H | (rw [hy592]; exact H) | exact H
    have Ny592 := Aside0.mk hy592
    clear hy592
    obtain rfl := Option.some.inj H
    go_enter Try.func70, Try.ntmps70
    go_wp2_with (first | ((with_reducible refine gate_callee (f := 58) rfl ?_); refine gL (some 13) rfl rfl Try.func58 (by kernel_rfl) rfl #[.slice A0 l0.length c0, .int .i64 a2] rfl ?_; (with_reducible refine (spec_l10Full.calls k _ _ l0 a2 true _ ?side1 ?side2 A6.out).mono ?_); (case side1 => exact Kd.C_kept_now HR0.out (by repeat (first | (with_reducible first | exact HK.out | apply Kept.alloc | apply Kept.drewN | apply Kept.drew) | exact HK.out))); (case side2 => exact HC0.out); rintro e w' ⟨rfl, ⟨nd, rfl⟩⟩; refine ⟨_, rfl, ?_⟩) | ((with_reducible refine gate_builtin (b := .append) (xs := #[.tmp 14, .tmp 16]) rfl ?_); at_builtin; refine Kd.R_append (Kd.int .i64) (w0 := w0) w0.heap.size rfl (.tmp 14) (.tmp 16) 37 3 (.int .i64 0) 8 rfl Try.underlying37 info3 rfl (by decide) (by omega) u9000_ l3 a2 [.int .i64 a2] (fun k_ => (P3_ k_ ∨ w.heap.size ≤ k_)) (fun _ => False) rfl rfl ?aP (fun _ hk => hk.elim) ?aF ?aO ?aB ?aS ?aL ?_; (case aP => exact rfl); (case aB => exact (bl HB)); (case aF => exact (fun k_ hk => (.inr (Nat.le_trans (by first | exact HK.out.1 | exact (show Kept w _ (fun k_ => P3_ k_) from by repeat (first | (with_reducible first | exact HK.out | apply Kept.alloc | apply Kept.drewN | apply Kept.drew) | exact HK.out)).1) hk)))); (case aO => exact (rr HO3)); (case aS => exact (below_size (bl HB))); (case aL => have := LMc8.out; omega); intro v593 w9 ho hb hg hat; rw [← Ny592.out] at ho; have n0_ := Aside0.mk (hb); have n1_ := Aside0.mk (Kept.of_grown (S := (fun k_ => P3_ k_)) hg (by repeat (first | (with_reducible first | exact HK.out | apply Kept.alloc | apply Kept.drewN | apply Kept.drew) | exact HK.out)) (fun k_ e_ => (HO3.out.1 k_ e_))); have n2_ := Aside0.mk (ho); clear HB; clear HK; clear HO3; have HB := n0_; have HK := n1_; have HO594 := n2_; clear n0_ n1_ n2_; clear ho hb hg hat))
    go_ret
    exact ⟨_, by first | rfl | (simp [errW_none, errW_some] <;> rfl) | (simp [*, errW_none, errW_some] <;> rfl), by (with_reducible repeat (first | apply Kd.R_alloc | apply Kd.R_drewN | apply Kd.R_drew)); exact HO594.out, (bl HB), by repeat (first | (with_reducible first | exact HK.out | apply Kept.alloc | apply Kept.drewN | apply Kept.drew) | exact HK.out)⟩
   ·rw [if_neg c8] at H
    exact absurd H (by simp)
  ·replace c7 := Bool.eq_false_iff.mpr c7
   subst c7
   have H1 : (some l3) = some r := by rw [if_neg (show ¬ (false = true) by decide)] at H; exact H
   clear H
   have H := H1
   clear H1
   obtain rfl := Option.some.inj H
   go_enter Try.func70, Try.ntmps70
   go_wp2_with (first | ((with_reducible refine gate_callee (f := 58) rfl ?_); refine gL (some 13) rfl rfl Try.func58 (by kernel_rfl) rfl #[.slice A0 l0.length c0, .int .i64 a2] rfl ?_; (with_reducible refine (spec_l10Full.calls k _ _ l0 a2 false _ ?side1 ?side2 A6.out).mono ?_); (case side1 => exact Kd.C_kept_now HR0.out (by repeat (first | (with_reducible first | exact HK.out | apply Kept.alloc | apply Kept.drewN | apply Kept.drew) | exact HK.out))); (case side2 => exact HC0.out); rintro e w' ⟨rfl, ⟨nd, rfl⟩⟩; refine ⟨_, rfl, ?_⟩))
   go_ret
   exact ⟨_, by first | rfl | (simp [errW_none, errW_some] <;> rfl) | (simp [*, errW_none, errW_some] <;> rfl), by (with_reducible repeat (first | apply Kd.R_alloc | apply Kd.R_drewN | apply Kd.R_drew)); exact HO3.out, (bl HB), by repeat (first | (with_reducible first | exact HK.out | apply Kept.alloc | apply Kept.drewN | apply Kept.drew) | exact HK.out)⟩
 ·rw [if_neg c5] at H
  have c5b0 : decide (a1 < 0) = false := decide_eq_false c5
  clear c5
  by_cases c10 : 0 ≤ a1
  ·rw [if_pos c10] at H
   have c10b0 : decide (0 ≤ a1) = true := decide_eq_true c10
   clear c10
   by_cases c11 : a1 < (l0.length : Int)
   ·rw [if_pos c11] at H
    have c11b0 : decide (a1 < (l0.length : Int)) = true := decide_eq_true c11
    clear c11
    by_cases c12 : (rd l0 a1) = 0
    ·rw [if_pos c12] at H
     have c12b0 : ((rd l0 a1) == 0) = true := beq_iff_eq.mpr c12
     have c12b1 : ((rd l0 a1) != 0) = false := bne_eq_false_iff_eq.mpr c12
     clear c12
     by_cases c13 : (Go.bits .and .i64 (rd l0 a1) a2) = 0
     ·rw [if_pos c13] at H
      have c13b0 : ((Go.bits .and .i64 (rd l0 a1) a2) == 0) = true := beq_iff_eq.mpr c13
      have c13b1 : ((Go.bits .and .i64 (rd l0 a1) a2) != 0) = false := bne_eq_false_iff_eq.mpr c13
      clear c13
      obtain ⟨ji14, hji14⟩ : ∃ j_ : Int, (IntKind.u64.wrap (a1)) = j_ := ⟨_, rfl⟩
      replace H : (if 0 ≤ (ji14) then ((spec_l10All.f k l0 (wrap64 (a1 - 1)) (wrap64 (a2 + (shl .i64 1 (ji14)))) l3).bind fun t597 => (some t597)) else (none)) = some r := by first | (rw [hji14] at H; exact H) | (simp only [hji14] at H ⊢; exact H)
      by_cases c15 : 0 ≤ (ji14)
      ·rw [if_pos c15] at H
       have c15b0 := eq_true c15
       have c15b1 : decide (0 ≤ (ji14)) = true := decide_eq_true c15
       clear c15
       obtain ⟨ji16, hji16⟩ : ∃ j_ : Int, (shl .i64 1 (ji14)) = j_ := ⟨_, rfl⟩
       replace H : ((spec_l10All.f k l0 (wrap64 (a1 - 1)) (wrap64 (a2 + (ji16))) l3).bind fun t597 => (some t597)) = some r := by first | (rw [hji16] at H; exact H) | (simp only [hji16] at H ⊢; exact H)
       have hji16_ : (IntKind.i64.wrap (1 * 2 ^ min (ji14).toNat 64)) = ji16 := hji16
       have hji16z : (ji14) ≤ 64 → (IntKind.i64.wrap (1 * 2 ^ (ji14).toNat)) = ji16 := shl_small hji16
       have hji16u : (IntKind.i64.wrap (2 ^ min (ji14).toNat 64)) = ji16 := by have h_ := hji16_; rw [Int.one_mul] at h_; exact h_
       have hji16v : (ji14) ≤ 64 → (IntKind.i64.wrap (2 ^ (ji14).toNat)) = ji16 := fun hle_ => by have h_ := hji16z hle_; rw [Int.one_mul] at h_; exact h_
       have hji16y : (wrap64 (1 * 2 ^ min (ji14).toNat 64)) = ji16 := (i64_w _).symm.trans hji16_
       have hji16x : (ji14) ≤ 64 → (wrap64 (1 * 2 ^ (ji14).toNat)) = ji16 := fun h_ => (i64_w _).symm.trans (hji16z h_)
       replace H := Option.bind_eq_some_iff.mp H
       obtain ⟨t597, A170, H⟩ := H
       (try dsimp only at H)
       have A17 := Aside0.mk A170
       clear A170
       obtain rfl := Option.some.inj H
       have p595 : 0 ≤ (a1 : Int) := of_decide_eq_true (by first | (with_reducible assumption) | assumption)
       have q595 : a1 < (l0.length : Int) := of_decide_eq_true (by first | (with_reducible assumption) | assumption)
       obtain ⟨ad595, e595, hx595_0⟩ := Kd.at_int (Kd.C_kept_now HR0.out HK.out) a1 p595 q595
       cases e595
       replace p595 := eq_true p595
       replace q595 := eq_true q595
       have p596 : 0 ≤ (a1 : Int) := of_decide_eq_true (by first | (with_reducible assumption) | assumption)
       have q596 : a1 < (l0.length : Int) := of_decide_eq_true (by first | (with_reducible assumption) | assumption)
       obtain ⟨ad596, e596, hx596_0⟩ := Kd.at_int (Kd.C_kept_now HR0.out HK.out) a1 p596 q596
       obtain rfl : ad595 = ad596 := (by injection e596)
       replace p596 := eq_true p596
       replace q596 := eq_true q596
       obtain ⟨Ao18, co18, eo18⟩ := Kd.R_slice HO3.out
       subst eo18
       go_enter Try.func70, Try.ntmps70
       go_wp2_with (first | ((with_reducible refine gate_callee (f := 70) rfl ?_); refine goesL_ (some 46) rfl rfl Try.func70 (by kernel_rfl) rfl #[.slice (some ad595) l0.length c0, .int .i64 (wrap64 (a1 - 1)), .int .i64 (wrap64 (a2 + (ji16))), .slice Ao18 l3.length co18] rfl (by (try simp only [List.map_toArray, List.map_cons, List.map_nil]); first | done | (simp only [hji16]; rfl) | rfl | (simp only [List.length_drop, List.length_take]; rfl)) ?_; (with_reducible refine (ih k (by omega) _ _ l0 (wrap64 (a1 - 1)) (wrap64 (a2 + (ji16))) (fun k_ => some k_ = (.slice Ao18 l3.length co18 : Value).ownBlock) (.slice Ao18 l3.length co18) l3 t597 w0 _ ?side1 ?side2 ?side3 ?side4 A17.out).mono ?_); (case side1 => repeat (first | (with_reducible first | exact HB.out | apply below_alloc | apply pw_below_drewN | apply below_drew1) | exact HB.out)); (case side2 => exact Kd.C_kept_call HR0.out (by repeat (first | (with_reducible first | exact HK.out | apply Kept.alloc | apply Kept.drewN | apply Kept.drew) | exact HK.out)) (fun k_ hs_ => (fun e_ => (HO3.out.1 k_ e_.symm)) hs_)); (case side3 => exact HC0.out); (case side4 => exact Kd.R_tight rfl HO3.out); rintro e w19 ⟨v598, rfl, ho0, hb, hkp⟩; refine ⟨_, rfl, ?_⟩; have n0_ := Aside0.mk (Kd.R_mono (ok' := fun k_ => (P3_ k_ ∨ w.heap.size ≤ k_)) ho0 (fun k_ hk_ => Or.elim hk_ (fun hs_ => (HO3.out.1 k_ (hs_).symm)) (fun hn_ => (.inr (Nat.le_trans (by first | exact HK.out.1 | exact (show Kept w _ (fun k_ => P3_ k_) from by repeat (first | (with_reducible first | exact HK.out | apply Kept.alloc | apply Kept.drewN | apply Kept.drew) | exact HK.out)).1) hn_))))); have n1_ := Aside0.mk (Kept.then_ (S := (fun k_ => P3_ k_)) (by repeat (first | (with_reducible first | exact HK.out | apply Kept.alloc | apply Kept.drewN | apply Kept.drew) | exact HK.out)) hkp (fun k_ hs_ => (fun e_ => (HO3.out.1 k_ e_.symm)) hs_)); have n2_ := Aside0.mk (hb); clear HK; clear HB; clear HO3; have HO599 := n0_; have HK := n1_; have HB := n2_; clear n0_ n1_ n2_; (try clear hb); (try clear hkp); (try clear ho0)))
       go_ret
       exact ⟨_, by first | rfl | (simp [errW_none, errW_some] <;> rfl) | (simp only [← hji14, ← hji16]; first | rfl | (simp [errW_none, errW_some] <;> rfl)) | (simp [*, errW_none, errW_some] <;> rfl), by (with_reducible repeat (first | apply Kd.R_alloc | apply Kd.R_drewN | apply Kd.R_drew)); exact HO599.out, (bl HB), by repeat (first | (with_reducible first | exact HK.out | apply Kept.alloc | apply Kept.drewN | apply Kept.drew) | exact HK.out)⟩
      ·rw [if_neg c15] at H
       exact absurd H (by simp)
     ·rw [if_neg c13] at H
      have c13b0 : ((Go.bits .and .i64 (rd l0 a1) a2) == 0) = false := beq_eq_false_iff_ne.mpr c13
      have c13b1 : ((Go.bits .and .i64 (rd l0 a1) a2) != 0) = true := bne_iff_ne.mpr c13
      obtain rfl := Option.some.inj H
      have p595 : 0 ≤ (a1 : Int) := of_decide_eq_true (by first | (with_reducible assumption) | assumption)
      have q595 : a1 < (l0.length : Int) := of_decide_eq_true (by first | (with_reducible assumption) | assumption)
      obtain ⟨ad595, e595, hx595_0⟩ := Kd.at_int (Kd.C_kept_now HR0.out HK.out) a1 p595 q595
      cases e595
      replace p595 := eq_true p595
      replace q595 := eq_true q595
      have p596 : 0 ≤ (a1 : Int) := of_decide_eq_true (by first | (with_reducible assumption) | assumption)
      have q596 : a1 < (l0.length : Int) := of_decide_eq_true (by first | (with_reducible assumption) | assumption)
      obtain ⟨ad596, e596, hx596_0⟩ := Kd.at_int (Kd.C_kept_now HR0.out HK.out) a1 p596 q596
      obtain rfl : ad595 = ad596 := (by injection e596)
      replace p596 := eq_true p596
      replace q596 := eq_true q596
      go_enter Try.func70, Try.ntmps70
      go_wp2
      go_ret
      exact ⟨_, by first | rfl | (simp [errW_none, errW_some] <;> rfl) | (simp [*, errW_none, errW_some] <;> rfl), by (with_reducible repeat (first | apply Kd.R_alloc | apply Kd.R_drewN | apply Kd.R_drew)); exact HO3.out, (bl HB), by repeat (first | (with_reducible first | exact HK.out | apply Kept.alloc | apply Kept.drewN | apply Kept.drew) | exact HK.out)⟩
    ·rw [if_neg c12] at H
     have c12b0 : ((rd l0 a1) == 0) = false := beq_eq_false_iff_ne.mpr c12
     have c12b1 : ((rd l0 a1) != 0) = true := bne_iff_ne.mpr c12
     replace H := Option.bind_eq_some_iff.mp H
     obtain ⟨t600, A200, H⟩ := H
     (try dsimp only at H)
     have A20 := Aside0.mk A200
     clear A200
     by_cases c21 : (Go.bits .and .i64 (rd l0 a1) a2) = 0
     ·rw [if_pos c21] at H
      have c21b0 : ((Go.bits .and .i64 (rd l0 a1) a2) == 0) = true := beq_iff_eq.mpr c21
      have c21b1 : ((Go.bits .and .i64 (rd l0 a1) a2) != 0) = false := bne_eq_false_iff_eq.mpr c21
      clear c21
      obtain ⟨ji22, hji22⟩ : ∃ j_ : Int, (IntKind.u64.wrap (a1)) = j_ := ⟨_, rfl⟩
      replace H : (if 0 ≤ (ji22) then ((spec_l10All.f k l0 (wrap64 (a1 - 1)) (wrap64 (a2 + (shl .i64 1 (ji22)))) t600).bind fun t604 => (some t604)) else (none)) = some r := by first | (rw [hji22] at H; exact H) | (simp only [hji22] at H ⊢; exact H)
      (try rw [hji22] at A20)
      by_cases c23 : 0 ≤ (ji22)
      ·rw [if_pos c23] at H
       have c23b0 := eq_true c23
       have c23b1 : decide (0 ≤ (ji22)) = true := decide_eq_true c23
       clear c23
       obtain ⟨ji24, hji24⟩ : ∃ j_ : Int, (shl .i64 1 (ji22)) = j_ := ⟨_, rfl⟩
       replace H : ((spec_l10All.f k l0 (wrap64 (a1 - 1)) (wrap64 (a2 + (ji24))) t600).bind fun t604 => (some t604)) = some r := by first | (rw [hji24] at H; exact H) | (simp only [hji24] at H ⊢; exact H)
       (try rw [hji24] at A20)
       have hji24_ : (IntKind.i64.wrap (1 * 2 ^ min (ji22).toNat 64)) = ji24 := hji24
       have hji24z : (ji22) ≤ 64 → (IntKind.i64.wrap (1 * 2 ^ (ji22).toNat)) = ji24 := shl_small hji24
       have hji24u : (IntKind.i64.wrap (2 ^ min (ji22).toNat 64)) = ji24 := by have h_ := hji24_; rw [Int.one_mul] at h_; exact h_
       have hji24v : (ji22) ≤ 64 → (IntKind.i64.wrap (2 ^ (ji22).toNat)) = ji24 := fun hle_ => by have h_ := hji24z hle_; rw [Int.one_mul] at h_; exact h_
       have hji24y : (wrap64 (1 * 2 ^ min (ji22).toNat 64)) = ji24 := (i64_w _).symm.trans hji24_
       have hji24x : (ji22) ≤ 64 → (wrap64 (1 * 2 ^ (ji22).toNat)) = ji24 := fun h_ => (i64_w _).symm.trans (hji24z h_)
       replace H := Option.bind_eq_some_iff.mp H
       obtain ⟨t604, A250, H⟩ := H
       (try dsimp only at H)
       have A25 := Aside0.mk A250
       clear A250
       obtain rfl := Option.some.inj H
       have p595 : 0 ≤ (a1 : Int) := of_decide_eq_true (by first | (with_reducible assumption) | assumption)
       have q595 : a1 < (l0.length : Int) := of_decide_eq_true (by first | (with_reducible assumption) | assumption)
       obtain ⟨ad595, e595, hx595_0⟩ := Kd.at_int (Kd.C_kept_now HR0.out HK.out) a1 p595 q595
       cases e595
       replace p595 := eq_true p595
       replace q595 := eq_true q595
       obtain ⟨Ao26, co26, eo26⟩ := Kd.R_slice HO3.out
       subst eo26
       go_enter Try.func70, Try.ntmps70
       go_wp2_with (first | ((with_reducible refine gate_callee (f := 70) rfl ?_); refine gL (some 29) rfl rfl Try.func70 (by kernel_rfl) rfl #[.slice (some ad595) l0.length c0, .int .i64 (wrap64 (a1 - 1)), .int .i64 a2, .slice Ao26 l3.length co26] rfl ?_; (with_reducible refine (ih k (by omega) _ _ l0 (wrap64 (a1 - 1)) a2 (fun k_ => some k_ = (.slice Ao26 l3.length co26 : Value).ownBlock) (.slice Ao26 l3.length co26) l3 t600 w0 _ ?side1 ?side2 ?side3 ?side4 A20.out).mono ?_); (case side1 => repeat (first | (with_reducible first | exact HB.out | apply below_alloc | apply pw_below_drewN | apply below_drew1) | exact HB.out)); (case side2 => exact Kd.C_kept_call HR0.out (by repeat (first | (with_reducible first | exact HK.out | apply Kept.alloc | apply Kept.drewN | apply Kept.drew) | exact HK.out)) (fun k_ hs_ => (fun e_ => (HO3.out.1 k_ e_.symm)) hs_)); (case side3 => exact HC0.out); (case side4 => exact Kd.R_tight rfl HO3.out); rintro e w27 ⟨v601, rfl, ho0, hb, hkp⟩; refine ⟨_, rfl, ?_⟩; have n0_ := Aside0.mk (Kd.R_mono (ok' := fun k_ => (P3_ k_ ∨ w.heap.size ≤ k_)) ho0 (fun k_ hk_ => Or.elim hk_ (fun hs_ => (HO3.out.1 k_ (hs_).symm)) (fun hn_ => (.inr (Nat.le_trans (by first | exact HK.out.1 | exact (show Kept w _ (fun k_ => P3_ k_) from by repeat (first | (with_reducible first | exact HK.out | apply Kept.alloc | apply Kept.drewN | apply Kept.drew) | exact HK.out)).1) hn_))))); have n1_ := Aside0.mk (Kept.then_ (S := (fun k_ => P3_ k_)) (by repeat (first | (with_reducible first | exact HK.out | apply Kept.alloc | apply Kept.drewN | apply Kept.drew) | exact HK.out)) hkp (fun k_ hs_ => (fun e_ => (HO3.out.1 k_ e_.symm)) hs_)); have n2_ := Aside0.mk (hb); clear HK; clear HB; clear HO3; have HO602 := n0_; have HK := n1_; have HB := n2_; clear n0_ n1_ n2_; (try clear hb); (try clear hkp); (try clear ho0); have p603 : 0 ≤ (a1 : Int) := of_decide_eq_true (by first | (with_reducible assumption) | assumption); have q603 : a1 < (l0.length : Int) := of_decide_eq_true (by first | (with_reducible assumption) | assumption); obtain ⟨ad603, e603, hx603_0⟩ := Kd.at_int (Kd.C_kept_now HR0.out HK.out) a1 p603 q603; obtain rfl : ad595 = ad603 := (by injection e603); replace p603 := eq_true p603; replace q603 := eq_true q603; obtain ⟨Ao28, co28, eo28⟩ := Kd.R_slice HO602.out; subst eo28) | ((with_reducible refine gate_callee (f := 70) rfl ?_); refine goesL_ (some 46) rfl rfl Try.func70 (by kernel_rfl) rfl #[.slice (some ad595) l0.length c0, .int .i64 (wrap64 (a1 - 1)), .int .i64 (wrap64 (a2 + (ji24))), .slice Ao28 t600.length co28] rfl (by (try simp only [List.map_toArray, List.map_cons, List.map_nil]); first | done | (simp only [hji24]; rfl) | rfl | (simp only [List.length_drop, List.length_take]; rfl)) ?_; (with_reducible refine (ih k (by omega) _ _ l0 (wrap64 (a1 - 1)) (wrap64 (a2 + (ji24))) (fun k_ => some k_ = (.slice Ao28 t600.length co28 : Value).ownBlock) (.slice Ao28 t600.length co28) t600 t604 w0 _ ?side1 ?side2 ?side3 ?side4 A25.out).mono ?_); (case side1 => repeat (first | (with_reducible first | exact HB.out | apply below_alloc | apply pw_below_drewN | apply below_drew1) | exact HB.out)); (case side2 => exact Kd.C_kept_call HR0.out (by repeat (first | (with_reducible first | exact HK.out | apply Kept.alloc | apply Kept.drewN | apply Kept.drew) | exact HK.out)) (fun k_ hs_ => (fun e_ => (HO602.out.1 k_ e_.symm)) hs_)); (case side3 => exact HC0.out); (case side4 => exact Kd.R_tight rfl HO602.out); rintro e w29 ⟨v605, rfl, ho0, hb, hkp⟩; refine ⟨_, rfl, ?_⟩; have n0_ := Aside0.mk (Kd.R_mono (ok' := fun k_ => (P3_ k_ ∨ w.heap.size ≤ k_)) ho0 (fun k_ hk_ => Or.elim hk_ (fun hs_ => (HO602.out.1 k_ (hs_).symm)) (fun hn_ => (.inr (Nat.le_trans (by first | exact HK.out.1 | exact (show Kept w _ (fun k_ => P3_ k_) from by repeat (first | (with_reducible first | exact HK.out | apply Kept.alloc | apply Kept.drewN | apply Kept.drew) | exact HK.out)).1) hn_))))); have n1_ := Aside0.mk (Kept.then_ (S := (fun k_ => P3_ k_)) (by repeat (first | (with_reducible first | exact HK.out | apply Kept.alloc | apply Kept.drewN | apply Kept.drew) | exact HK.out)) hkp (fun k_ hs_ => (fun e_ => (HO602.out.1 k_ e_.symm)) hs_)); have n2_ := Aside0.mk (hb); clear HK; clear HB; clear HO602; have HO606 := n0_; have HK := n1_; have HB := n2_; clear n0_ n1_ n2_; (try clear hb); (try clear hkp); (try clear ho0)))
       go_ret
       exact ⟨_, by first | rfl | (simp [errW_none, errW_some] <;> rfl) | (simp only [← hji22, ← hji24]; first | rfl | (simp [errW_none, errW_some] <;> rfl)) | (simp [*, errW_none, errW_some] <;> rfl), by (with_reducible repeat (first | apply Kd.R_alloc | apply Kd.R_drewN | apply Kd.R_drew)); exact HO606.out, (bl HB), by repeat (first | (with_reducible first | exact HK.out | apply Kept.alloc | apply Kept.drewN | apply Kept.drew) | exact HK.out)⟩
      ·rw [if_neg c23] at H
       exact absurd H (by simp)
     ·rw [if_neg c21] at H
      have c21b0 : ((Go.bits .and .i64 (rd l0 a1) a2) == 0) = false := beq_eq_false_iff_ne.mpr c21
      have c21b1 : ((Go.bits .and .i64 (rd l0 a1) a2) != 0) = true := bne_iff_ne.mpr c21
      obtain rfl := Option.some.inj H
      have p595 : 0 ≤ (a1 : Int) := of_decide_eq_true (by first | (with_reducible assumption) | assumption)
      have q595 : a1 < (l0.length : Int) := of_decide_eq_true (by first | (with_reducible assumption) | assumption)
      obtain ⟨ad595, e595, hx595_0⟩ := Kd.at_int (Kd.C_kept_now HR0.out HK.out) a1 p595 q595
      cases e595
      replace p595 := eq_true p595
      replace q595 := eq_true q595
      obtain ⟨Ao30, co30, eo30⟩ := Kd.R_slice HO3.out
      subst eo30
      go_enter Try.func70, Try.ntmps70
      go_wp2_with (first | ((with_reducible refine gate_callee (f := 70) rfl ?_); refine gL (some 29) rfl rfl Try.func70 (by kernel_rfl) rfl #[.slice (some ad595) l0.length c0, .int .i64 (wrap64 (a1 - 1)), .int .i64 a2, .slice Ao30 l3.length co30] rfl ?_; (with_reducible refine (ih k (by omega) _ _ l0 (wrap64 (a1 - 1)) a2 (fun k_ => some k_ = (.slice Ao30 l3.length co30 : Value).ownBlock) (.slice Ao30 l3.length co30) l3 t600 w0 _ ?side1 ?side2 ?side3 ?side4 A20.out).mono ?_); (case side1 => repeat (first | (with_reducible first | exact HB.out | apply below_alloc | apply pw_below_drewN | apply below_drew1) | exact HB.out)); (case side2 => exact Kd.C_kept_call HR0.out (by repeat (first | (with_reducible first | exact HK.out | apply Kept.alloc | apply Kept.drewN | apply Kept.drew) | exact HK.out)) (fun k_ hs_ => (fun e_ => (HO3.out.1 k_ e_.symm)) hs_)); (case side3 => exact HC0.out); (case side4 => exact Kd.R_tight rfl HO3.out); rintro e w31 ⟨v601, rfl, ho0, hb, hkp⟩; refine ⟨_, rfl, ?_⟩; have n0_ := Aside0.mk (Kd.R_mono (ok' := fun k_ => (P3_ k_ ∨ w.heap.size ≤ k_)) ho0 (fun k_ hk_ => Or.elim hk_ (fun hs_ => (HO3.out.1 k_ (hs_).symm)) (fun hn_ => (.inr (Nat.le_trans (by first | exact HK.out.1 | exact (show Kept w _ (fun k_ => P3_ k_) from by repeat (first | (with_reducible first | exact HK.out | apply Kept.alloc | apply Kept.drewN | apply Kept.drew) | exact HK.out)).1) hn_))))); have n1_ := Aside0.mk (Kept.then_ (S := (fun k_ => P3_ k_)) (by repeat (first | (with_reducible first | exact HK.out | apply Kept.alloc | apply Kept.drewN | apply Kept.drew) | exact HK.out)) hkp (fun k_ hs_ => (fun e_ => (HO3.out.1 k_ e_.symm)) hs_)); have n2_ := Aside0.mk (hb); clear HK; clear HB; clear HO3; have HO602 := n0_; have HK := n1_; have HB := n2_; clear n0_ n1_ n2_; (try clear hb); (try clear hkp); (try clear ho0); have p603 : 0 ≤ (a1 : Int) := of_decide_eq_true (by first | (with_reducible assumption) | assumption); have q603 : a1 < (l0.length : Int) := of_decide_eq_true (by first | (with_reducible assumption) | assumption); obtain ⟨ad603, e603, hx603_0⟩ := Kd.at_int (Kd.C_kept_now HR0.out HK.out) a1 p603 q603; obtain rfl : ad595 = ad603 := (by injection e603); replace p603 := eq_true p603; replace q603 := eq_true q603))
      go_ret
      exact ⟨_, by first | rfl | (simp [errW_none, errW_some] <;> rfl) | (simp [*, errW_none, errW_some] <;> rfl), by (with_reducible repeat (first | apply Kd.R_alloc | apply Kd.R_drewN | apply Kd.R_drew)); exact HO602.out, (bl HB), by repeat (first | (with_reducible first | exact HK.out | apply Kept.alloc | apply Kept.drewN | apply Kept.drew) | exact HK.out)⟩
   ·rw [if_neg c11] at H
    exact absurd H (by simp)
  ·rw [if_neg c10] at H
   exact absurd H (by simp)

/-! ### spec_Triangulations: function 36 -/
def spec_Triangulations.f (k : Nat) (a0_0 : Int) (a0_1 : ByteArray) : Option (List Int) := (spec_l10Fits.f k a0_0 a0_1).bind fun t608 => (if t608 = true then ((spec_l10Pairs.f k a0_0 a0_1).bind fun t609 => ((spec_l10All.f k t609 (wrap64 ((t609.length : Int) - 1)) 0 (([] : List Int))).bind fun t615 => (some t615))) else (some (([] : List Int))))
theorem spec_Triangulations.mono : ∀ a0 a1 k, LeO (spec_Triangulations.f k a0 a1) (spec_Triangulations.f (k + 1) a0 a1) := by
 intro a0 a1 k
 unfold spec_Triangulations.f
 repeat' first
   | (with_reducible exact spec_l10All.mono _ _ _ _ _)
   | (with_reducible exact spec_l10Fits.mono _ _ _)
   | (with_reducible exact spec_l10Pairs.mono _ _ _)
   | (with_reducible exact LeO.refl _)
   | (with_reducible exact LeO.none _)
   | (with_reducible refine LeO.ite ?_ ?_)
   | (with_reducible refine LeO.bind ?_ (fun _ => ?_))
   | exact spec_l10All.mono _ _ _ _ _
   | exact spec_l10Fits.mono _ _ _
   | exact spec_l10Pairs.mono _ _ _
   | exact LeO.none _
   | refine LeO.ite ?_ ?_
   | refine LeO.bind ?_ (fun _ => ?_)
set_option maxHeartbeats 8000000 in
set_option maxRecDepth 100000 in
theorem spec_Triangulations.calls (k : Nat) (a0_0 : Int) (a0_1 : ByteArray) (r : List Int) (w : World) (h : spec_Triangulations.f k a0_0 a0_1 = some r) :
  Calls Try.prog 36 #[.agg #[.int .i64 a0_0, .string a0_1]] w fun e w' => ∃ v0_ : Value, e = .returned (v0_) ∧ Kd.R (Kd.int .i64) 3 w' w.heap.size (fun _ => True) v0_ r ∧ Below w.heap.size w w' := by
 have hu26 := Try.underlying26
 have HB := Aside0.mk (Below.refl w.heap.size w)
 have H : ((spec_l10Fits.f k a0_0 a0_1).bind fun t608 => (if t608 = true then ((spec_l10Pairs.f k a0_0 a0_1).bind fun t609 => ((spec_l10All.f k t609 (wrap64 ((t609.length : Int) - 1)) 0 (([] : List Int))).bind fun t615 => (some t615))) else (some (([] : List Int))))) = some r := h
 clear h
 replace H := Option.bind_eq_some_iff.mp H
 obtain ⟨t608, A20, H⟩ := H
 (try dsimp only at H)
 have A2 := Aside0.mk A20
 clear A20
 by_cases c3 : t608 = true
 ·subst c3
  have H1 : ((spec_l10Pairs.f k a0_0 a0_1).bind fun t609 => ((spec_l10All.f k t609 (wrap64 ((t609.length : Int) - 1)) 0 (([] : List Int))).bind fun t615 => (some t615))) = some r := by rw [if_pos rfl] at H; exact H
  clear H
  have H := H1
  clear H1
  replace H := Option.bind_eq_some_iff.mp H
  obtain ⟨t609, A40, H⟩ := H
  (try dsimp only at H)
  have A4 := Aside0.mk A40
  clear A40
  obtain ⟨y612, hy612⟩ : ∃ y_ : List Int, y_ = (([] : List Int)) := ⟨_, rfl⟩
  replace H : ((spec_l10All.f k t609 (wrap64 ((t609.length : Int) - 1)) 0 y612).bind fun t615 => (some t615)) = some r := by first | (rw [hy612]; with_reducible exact H) | (have H2_ := (Option.bind_some _ _).symm.trans H; rw [hy612]; with_reducible exact H2_) | (have H2_ := (Option.bind_some _ _).symm.trans H; with_reducible exact H2_) | with_reducible exact H | (rw [hy612]; exact H) | exact H
  have Ny612 := Aside0.mk hy612
  clear hy612
  replace H := Option.bind_eq_some_iff.mp H
  obtain ⟨t615, A50, H⟩ := H
  (try dsimp only at H)
  have A5 := Aside0.mk A50
  clear A50
  obtain rfl := Option.some.inj H
  go_enter Try.func36, Try.ntmps36
  go_wp2_with (first | ((with_reducible refine gate_dst (N := 1) rfl ?_); refine bx 1 #[.int .i64 a0_0, .string a0_1] 26 ?_; intro gb607 hg w6 hbox hb; have BK607 := Aside0.mk hbox; have GE607 := gs HB hg; have GW607 := GE607; replace HB := bs HB hb; clear hb hbox hg; have hcz7_0 := bc BK607 0; have hcz7_1 := bc BK607 1; have hfz7_0 := bf BK607 0; have hfz7_1 := bf BK607 1) | ((with_reducible refine gate_callee (f := 55) rfl ?_); refine gL (some 5) rfl rfl Try.func55 (by kernel_rfl) rfl #[.agg #[.int .i64 a0_0, .string a0_1]] rfl ?_; (with_reducible refine (spec_l10Fits.calls k a0_0 a0_1 true _ A2.out).mono ?_); rintro e w8 ⟨rfl, hb⟩; refine ⟨_, rfl, ?_⟩; have n0_ := Aside0.mk (blk_below (g := gb607) (o := .cells #[.int .i64 a0_0, .string a0_1] 26 (0, 0)) (bk BK607) hb); have n1_ := bsg HB GE607 hb; clear BK607; clear HB; have BK607 := n0_; have HB := n1_; clear n0_ n1_; (try clear hb); (try clear hb2); (try clear hk); (try clear hi); have hcz9_0 := bc BK607 0; have hcz9_1 := bc BK607 1; have hfz9_0 := bf BK607 0; have hfz9_1 := bf BK607 1) | ((with_reducible refine gate_callee (f := 59) rfl ?_); refine gL (some 9) rfl rfl Try.func59 (by kernel_rfl) rfl #[.agg #[.int .i64 a0_0, .string a0_1]] rfl ?_; (with_reducible refine (spec_l10Pairs.calls k a0_0 a0_1 t609 _ A4.out).mono ?_); rintro e w10 ⟨v610, rfl, ho0, hb⟩; refine ⟨_, rfl, ?_⟩; have n0_ := Aside0.mk (Kd.R_lower ho0 (below_size (bg HB GE607))); have n1_ := Aside0.mk (blk_below (g := gb607) (o := .cells #[.int .i64 a0_0, .string a0_1] 26 (0, 0)) (bk BK607) hb); have n2_ := bsg HB GE607 hb; clear BK607; clear HB; have HO611 := n0_; have BK607 := n1_; have HB := n2_; clear n0_ n1_ n2_; (try clear hb); (try clear hb2); (try clear hk); (try clear hi); (try clear ho0); obtain ⟨Ao11, co11, eo11⟩ := Kd.R_slice HO611.out; subst eo11) | ((with_reducible refine gate_dst (N := 14) rfl ?_); refine Kd.R_lit (Kd.int .i64) _ 3 ?hg (N := 14) ?hd (xs := ([] : List Int)) (inner := []) (ok := fun _ => True) (okp := fun _ => True) ?hr ?hp (fun _ hk => hk) trivial (Below.refl _ _) (Nat.le_refl _) (by simp) ?_; (case hd => rfl); (case hg => rfl); (case hr => first | (go_simp; done) | (go_simp; rfl)); (case hp => exact (Reps.none _ _)); intro v613 w12 ho13 hb hg_ hnew_; clear hg_ hnew_; (first | rw [← Ny612.out] at ho13 | (simp only [Int.reduceToNat] at ho13; rw [← Ny612.out] at ho13)); have n0_ := Aside0.mk (Kd.R_elder' (rr HO611) (Kd.R_base ho13) hb); have n1_ := Aside0.mk (Kd.R_lower (Kd.R_new' ho13 (Kd.R_lt (rr HO611))) (below_size (bg HB GE607))); have n2_ := Aside0.mk (blk_below (g := gb607) (o := .cells #[.int .i64 a0_0, .string a0_1] 26 (0, 0)) (bk BK607) hb); have n3_ := bsg HB GE607 hb; clear HO611; clear BK607; clear HB; have HO611 := n0_; have HO614 := n1_; have BK607 := n2_; have HB := n3_; clear n0_ n1_ n2_ n3_; clear hb ho13; obtain ⟨Ao14, co14, eo14⟩ := Kd.R_slice HO614.out; subst eo14) | ((with_reducible refine gate_callee (f := 70) rfl ?_); refine gL (some 15) rfl rfl Try.func70 (by kernel_rfl) rfl #[.slice Ao11 t609.length co11, .int .i64 (wrap64 ((t609.length : Int) - 1)), .int .i64 0, .slice Ao14 y612.length co14] rfl ?_; (with_reducible refine (spec_l10All.calls k _ _ t609 (wrap64 ((t609.length : Int) - 1)) 0 (fun k_ => some k_ = (.slice Ao14 y612.length co14 : Value).ownBlock) (.slice Ao14 y612.length co14) y612 t615 w _ ?side1 ?side2 ?side3 ?side4 A5.out).mono ?_); (case side1 => repeat (first | (with_reducible first | exact HB.out | apply below_alloc | apply pw_below_drewN | apply below_drew1 | refine below_set ?_ GE607.out) | exact HB.out)); (case side2 => exact Kd.C_kept_own (HO611.out) (fun k_ hk_ hs_ => (hk_.2) hs_)); (case side3 => exact (Kd.R_reads' HO611.out).2.1); (case side4 => exact Kd.R_tight rfl HO614.out); rintro e w15 ⟨v616, rfl, ho0, hb, hkp⟩; refine ⟨_, rfl, ?_⟩; have n0_ := Aside0.mk (blk_kept (bk BK607) hkp (fun hs_ => (fun e_ => (Kd.R_ne HO614.out BK607.out (by decide)) e_) hs_)); have n1_ := Aside0.mk (Kd.R_mono (ok' := fun k_ => some k_ ≠ (v616 : Value).ownBlock) (Kd.R_keptB (HO611.out) hkp (fun k_ hk_ hs_ => (hk_.2) hs_)) (fun k_ hk_ => fun e_ => Or.elim (ho0.1 k_ e_.symm) (fun hs_ => hk_.2.1 hs_) (fun hn_ => Nat.not_le.2 hk_.2.2 hn_))); have n2_ := Aside0.mk (Kd.R_mono (ok' := fun k_ => some k_ ≠ (.slice Ao11 t609.length co11 : Value).ownBlock) ho0 (fun k_ hk_ => Or.elim hk_ (fun hs_ => fun e_ => (((HO611.out).1 k_ e_.symm).2) hs_) (fun hn_ => (Kd.fresh' (Kd.R_lt (rr HO611)) k_ hn_)))); have n3_ := Aside0.mk (hb); clear BK607; clear HO611; clear HB; clear HO614; have BK607 := n0_; have HO611 := n1_; have HO617 := n2_; have HB := n3_; clear n0_ n1_ n2_ n3_; (try clear hb); (try clear hkp); (try clear ho0)))
  go_ret
  exact ⟨_, by first | rfl | (simp [errW_none, errW_some] <;> rfl) | (simp [*, errW_none, errW_some] <;> rfl), by (with_reducible repeat (first | apply Kd.R_alloc | apply Kd.R_drewN | apply Kd.R_drew)); exact Kd.R_mono HO617.out (fun _ hk => trivial), (bg HB GE607)⟩
 ·replace c3 := Bool.eq_false_iff.mpr c3
  subst c3
  have H1 : (some (([] : List Int))) = some r := by rw [if_neg (show ¬ (false = true) by decide)] at H; exact H
  clear H
  have H := H1
  clear H1
  obtain ⟨y618, hy618⟩ : ∃ y_ : List Int, y_ = (([] : List Int)) := ⟨_, rfl⟩
  replace H : (some y618) = some r := by first | (rw [hy618]; with_reducible exact H) | (have H2_ := (Option.bind_some _ _).symm.trans H; rw [hy618]; with_reducible exact H2_) | (have H2_ := (Option.bind_some _ _).symm.trans H; with_reducible exact H2_) | with_reducible exact H | (rw [hy618]; exact H) | exact H
  have Ny618 := Aside0.mk hy618
  clear hy618
  obtain rfl := Option.some.inj H
  go_enter Try.func36, Try.ntmps36
  go_wp2_with (first | ((with_reducible refine gate_dst (N := 1) rfl ?_); refine bx 1 #[.int .i64 a0_0, .string a0_1] 26 ?_; intro gb607 hg w16 hbox hb; have BK607 := Aside0.mk hbox; have GE607 := gs HB hg; have GW607 := GE607; replace HB := bs HB hb; clear hb hbox hg; have hcz17_0 := bc BK607 0; have hcz17_1 := bc BK607 1; have hfz17_0 := bf BK607 0; have hfz17_1 := bf BK607 1) | ((with_reducible refine gate_callee (f := 55) rfl ?_); refine gL (some 5) rfl rfl Try.func55 (by kernel_rfl) rfl #[.agg #[.int .i64 a0_0, .string a0_1]] rfl ?_; (with_reducible refine (spec_l10Fits.calls k a0_0 a0_1 false _ A2.out).mono ?_); rintro e w18 ⟨rfl, hb⟩; refine ⟨_, rfl, ?_⟩; have n0_ := Aside0.mk (blk_below (g := gb607) (o := .cells #[.int .i64 a0_0, .string a0_1] 26 (0, 0)) (bk BK607) hb); have n1_ := bsg HB GE607 hb; clear BK607; clear HB; have BK607 := n0_; have HB := n1_; clear n0_ n1_; (try clear hb); (try clear hb2); (try clear hk); (try clear hi)) | ((with_reducible refine gate_dst (N := 7) rfl ?_); refine Kd.R_lit (Kd.int .i64) _ 3 ?hg (N := 7) ?hd (xs := ([] : List Int)) (inner := []) (ok := fun _ => True) (okp := fun _ => True) ?hr ?hp (fun _ hk => hk) trivial (Below.refl _ _) (Nat.le_refl _) (by simp) ?_; (case hd => rfl); (case hg => rfl); (case hr => first | (go_simp; done) | (go_simp; rfl)); (case hp => exact (Reps.none _ _)); intro v619 w19 ho20 hb hg_ hnew_; clear hg_ hnew_; (first | rw [← Ny618.out] at ho20 | (simp only [Int.reduceToNat] at ho20; rw [← Ny618.out] at ho20)); have n0_ := Aside0.mk (Kd.R_lower ho20 (below_size (bg HB GE607))); have n1_ := Aside0.mk (blk_below (g := gb607) (o := .cells #[.int .i64 a0_0, .string a0_1] 26 (0, 0)) (bk BK607) hb); have n2_ := bsg HB GE607 hb; clear BK607; clear HB; have HO620 := n0_; have BK607 := n1_; have HB := n2_; clear n0_ n1_ n2_; clear hb ho20))
  go_ret
  exact ⟨_, by first | rfl | (simp [errW_none, errW_some] <;> rfl) | (simp [*, errW_none, errW_some] <;> rfl), by (with_reducible repeat (first | apply Kd.R_alloc | apply Kd.R_drewN | apply Kd.R_drew)); exact HO620.out, (bg HB GE607)⟩

end Go.Proofs.Ytjjfjdejhddcnaa.P
