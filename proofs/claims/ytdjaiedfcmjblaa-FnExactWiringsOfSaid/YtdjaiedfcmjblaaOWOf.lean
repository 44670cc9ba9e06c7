/- spec.WiringsOf, impl.WiringsOf and laws.FnExactWiringsOf: what a call of them computes. Conditions: none. -/
import Derived.Test.YtdjaiedfcmjblaaOWords
import Derived.Test.YtdjaiedfcmjblaaOWirs
import Derived.Test.YtdjaiedfcmjblaaOMarkSS
import Derived.Test.YtdjaiedfcmjblaaWAll2
import Derived.Test.YtdjaiedfcmjblaaP48
import Derived.Test.YtdjaiedfcmjblaaP37
import Derived.Test.YtdjaiedfcmjblaaP39
namespace Go.Proofs.Ytdjaiedfcmjblaa.P
open Go.RowKit Go.Proofs.YtdjaiedfcmjblaaW.PrintWords Go.Proofs.YtdjaiedfcmjblaaW.PrintLast Go.Proofs.YtdjaiedfcmjblaaW.PrintMore
attribute [local go_sem] max2_int min2_int max_two min_two max_three min_three max_four min_four
set_option linter.unusedVariables false
set_option linter.unusedSimpArgs false

def spec_WiringsOf.f (k : Nat) (n : Int) : Option (List (List Int)) := (spec_l1In.f n 3 4).bind fun b => if b = true then ((spec_l12Start.f k n).bind fun ws => spec_l15Words.f k n ws [] []) else some []
def impl_WiringsOf.f (k : Nat) (n : Int) : Option (List (List Int)) := if n = 3 ∨ n = 4 then ((impl_upTo.f k n).bind fun ws => impl_wirings.f k n ws [] []) else some []
set_option maxHeartbeats 8000000 in
set_option maxRecDepth 100000 in
theorem spec_WiringsOf.calls (k : Nat) (n : Int) (r : List (List Int)) (w : World) (h : spec_WiringsOf.f k n = some r) :
    Calls Try.prog 35 #[.int .i64 n] w fun e w' => ∃ v0_ : Value, e = .returned (v0_) ∧ Kd.S (Kd.slice 3 (Kd.int .i64)) 22 w' w.heap.size (fun _ => True) v0_ r ∧ Below w.heap.size w w' := by
  unfold spec_WiringsOf.f at h
  have H := h
  clear h
  replace H := Option.bind_eq_some_iff.mp H
  obtain ⟨b, A30, H⟩ := H
  have A3 := Aside0.mk A30
  clear A30
  cases b with
  | false =>
    simp only [Bool.false_eq_true, if_false] at H
    obtain rfl := Option.some.inj H
    clear H
    go_enter Try.func35, Try.ntmps35
    go_wp2_with (first
      | ((with_reducible refine gate_callee (f := 48) rfl ?_); refine goesL_ (some 4) rfl rfl Try.func48 (by kernel_rfl) rfl #[.int .i64 n, .int .i64 3, .int .i64 4] rfl (by (try simp only [List.map_toArray, List.map_cons, List.map_nil]); first | done | rfl | (simp only [List.length_drop, List.length_take]; rfl)) ?_; (with_reducible refine (spec_l1In.calls n 3 4 _ _ A3.out).mono ?_); rintro e w' ⟨rfl, ⟨nd4, rfl⟩⟩; refine ⟨_, rfl, ?_⟩; have BD := Aside0.mk (pw_below_drewN (Below.refl w.heap.size w) nd4); revert BD; generalize w.drewN nd4 = w1; intro BD)
      | ((with_reducible refine gate_dst (N := 6) rfl ?_); refine Kd.S_lit (Kd.slice 3 (Kd.int .i64)) _ 22 ?hg (N := 6) ?hd (xs := ([] : List (List Int))) (inner := []) (ok := fun _ => True) (okp := fun _ => True) ?hr ?hp (fun _ hk => hk) trivial (Below.refl _ _) (Nat.le_refl _) (by simp) ?_; (case hd => rfl); (case hg => rfl); (case hr => first | (go_simp; done) | (go_simp; rfl)); (case hp => exact (Reps.none _ _)); intro v6 w6 ho hb hg_ hnew_; clear hg_ hnew_; have H6 := Aside0.mk ho; have B6 := Aside0.mk hb; clear ho hb))
    go_ret
    exact ⟨_, rfl, Kd.S_lower H6.out (below_size BD.out), bl (bs BD B6.out)⟩
  | true =>
    simp only [if_true] at H
    replace H := Option.bind_eq_some_iff.mp H
    obtain ⟨ws, A40, H⟩ := H
    have A4 := Aside0.mk A40
    have A5 := Aside0.mk H
    clear A40 H
    go_enter Try.func35, Try.ntmps35
    go_wp2_with (first
      | ((with_reducible refine gate_callee (f := 48) rfl ?_); refine goesL_ (some 4) rfl rfl Try.func48 (by kernel_rfl) rfl #[.int .i64 n, .int .i64 3, .int .i64 4] rfl (by (try simp only [List.map_toArray, List.map_cons, List.map_nil]); first | done | rfl | (simp only [List.length_drop, List.length_take]; rfl)) ?_; (with_reducible refine (spec_l1In.calls n 3 4 _ _ A3.out).mono ?_); rintro e w' ⟨rfl, ⟨nd4, rfl⟩⟩; refine ⟨_, rfl, ?_⟩; have BD := Aside0.mk (pw_below_drewN (Below.refl w.heap.size w) nd4); revert BD; generalize w.drewN nd4 = w1; intro BD)
      | ((with_reducible refine gate_callee (f := 49) rfl ?_); refine goesL_ (some 9) rfl rfl Try.func49 (by kernel_rfl) rfl #[.int .i64 n] rfl (by (try simp only [List.map_toArray, List.map_cons, List.map_nil]); first | done | rfl | (simp only [List.length_drop, List.length_take]; rfl)) ?_; (with_reducible refine (spec_l12Start.calls k n ws _ A4.out).mono ?_); rintro e w9 ⟨v9, rfl, ho, hb⟩; refine ⟨_, rfl, ?_⟩; have H9 := Aside0.mk ho; have B9 := Aside0.mk hb; clear ho hb)
      | ((with_reducible refine gate_dst (N := 10) rfl ?_); refine Kd.R_lit (Kd.int .i64) _ 3 ?hg (N := 10) ?hd (xs := ([] : List Int)) (inner := []) (ok := fun _ => True) (okp := fun _ => True) ?hr ?hp (fun _ hk => hk) trivial (Below.refl _ _) (Nat.le_refl _) (by simp) ?_; (case hd => rfl); (case hg => rfl); (case hr => first | (go_simp; done) | (go_simp; rfl)); (case hp => exact (Reps.none _ _)); intro v10 w10 ho hb hg_ hnew_; clear hg_ hnew_; have H10 := Aside0.mk ho; have B10 := Aside0.mk hb; clear ho hb)
      | ((with_reducible refine gate_dst (N := 11) rfl ?_); refine Kd.S_lit (Kd.slice 3 (Kd.int .i64)) _ 22 ?hg (N := 11) ?hd (xs := ([] : List (List Int))) (inner := []) (ok := fun _ => True) (okp := fun _ => True) ?hr ?hp (fun _ hk => hk) trivial (Below.refl _ _) (Nat.le_refl _) (by simp) ?_; (case hd => rfl); (case hg => rfl); (case hr => first | (go_simp; done) | (go_simp; rfl)); (case hp => exact (Reps.none _ _)); intro v11 w11 ho hb hg_ hnew_; clear hg_ hnew_; have H11 := Aside0.mk ho; have B11 := Aside0.mk hb; clear ho hb)
      | (go_at_call 58; (with_reducible refine (spec_l15Words.calls k n v9 v10 v11 ws [] [] r w1 _ (fun k => w10.heap.size ≤ k) ?a1 ?a2 ?a3 ?a4 A5.out).mono ?_); (case a1 => exact below_then (below_then (show Below w1.heap.size w1 w9 from B9.out) (show w1.heap.size ≤ w9.heap.size from below_size (show Below w1.heap.size w1 w9 from B9.out)) B10.out) (Nat.le_trans (below_size (show Below w1.heap.size w1 w9 from B9.out)) (below_size B10.out)) B11.out); (case a2 => exact Kd.R_below (Kd.R_mono (Kd.R_bound (Kd.R_below H9.out B10.out)) (fun k hk h2 => by have h1 := hk.2.2.1; omega)) B11.out); (case a3 => exact Kd.R_lower (Kd.R_below (Kd.R_mono (Kd.R_bound H10.out) (fun k hk h2 => by have h1 := hk.2.2.1; omega)) B11.out) (below_size (show Below w1.heap.size w1 w9 from B9.out))); (case a4 => exact Kd.S_lower (Kd.S_mono (Kd.S_bound H11.out) (fun k hk => hk.2.1)) (Nat.le_trans (below_size (show Below w1.heap.size w1 w9 from B9.out)) (below_size B10.out))); rintro e w12 ⟨v12, rfl, ho, hb, hk⟩; have H12 := Aside0.mk ho; have B12 := Aside0.mk hb; clear ho hb hk))
    go_ret
    exact ⟨_, rfl, Kd.S_lower (Kd.S_mono H12.out (fun _ _ => trivial)) (below_size BD.out), bl (bs BD B12.out)⟩
set_option maxHeartbeats 8000000 in
set_option maxRecDepth 100000 in
theorem impl_WiringsOf.calls (k : Nat) (n : Int) (r : List (List Int)) (w : World) (h : impl_WiringsOf.f k n = some r) :
    Calls Try.prog 36 #[.int .i64 n] w fun e w' => ∃ v0_ : Value, e = .returned (v0_) ∧ Kd.S (Kd.slice 3 (Kd.int .i64)) 22 w' w.heap.size (fun _ => True) v0_ r ∧ Below w.heap.size w w' := by
  unfold impl_WiringsOf.f at h
  by_cases h34 : n = 3 ∨ n = 4
  · rw [if_pos h34] at h
    replace h := Option.bind_eq_some_iff.mp h
    obtain ⟨ws, A40, H⟩ := h
    have A4 := Aside0.mk A40
    have A5 := Aside0.mk H
    clear A40 H
    obtain ⟨t1, ht1⟩ : ∃ t : Bool, (n != 3) = t := ⟨_, rfl⟩
    have hn3 : ((n != 3) && (n != 4)) = false := by rcases h34 with rfl | rfl <;> rfl
    rcases h34 with rfl | rfl
    · clear hn3 ht1
      go_enter Try.func36, Try.ntmps36
      go_wp2_with (first | ((with_reducible refine gate_dst (N := 3) rfl ?_); refine bx 3 #[.slice none 0 0] 34 ?_; intro g3 hg w3 hbox hb; have BK3 := Aside0.mk hbox; have B3 := Aside0.mk hb; have G3 := Aside0.mk (Nat.le_of_eq hg.symm); clear hb hbox hg) | ((with_reducible refine gate_callee (f := 54) rfl ?_); refine goesL_ (some 12) rfl rfl Try.func54 (by kernel_rfl) rfl #[.int .i64 3] rfl (by (try simp only [List.map_toArray, List.map_cons, List.map_nil]); first | done | rfl | (simp only [List.length_drop, List.length_take]; rfl)) ?_; (with_reducible refine (impl_upTo.calls k 3 ws _ A4.out).mono ?_); rintro e w12 ⟨v12, rfl, ho, hb⟩; refine ⟨_, rfl, ?_⟩; have H12 := Aside0.mk ho; have B12 := Aside0.mk hb; clear ho hb) | (go_at_call 59; (with_reducible refine (impl_wirings.calls k 3 v12 (.slice none 0 0) (.slice none 0 0) g3 ws [] [] r w _ (fun _ => False) ?a1 ?a2 (Kd.R_nil _ _ _ _ _) ?a4 G3.out (fun h => h) (Kd.S_bare (Kd.R_nil _ _ _ _ _)) A5.out).mono ?_); (case a1 => exact below_then B3.out (below_size B3.out) B12.out); (case a2 => exact Kd.R_lower (Kd.R_mono (Kd.R_bound H12.out) (fun k hk h2 => by have h1 := hk.2.1; have h3 := blk_lt BK3.out; rcases h2 with h2 | h2; exact h2; omega)) (below_size B3.out)); (case a4 => exact blk_below BK3.out B12.out); rintro e w13 ⟨rfl, ⟨u', hbk, ho⟩, hb, hk⟩; obtain ⟨A13, c13, e13⟩ := Kd.S_slice ho; subst e13; have hcell := (blk_cell hbk 0).trans rfl; have H13 := Aside0.mk ho; have B13 := Aside0.mk hb; clear ho hb hk hbk))
      go_ret
      exact ⟨_, rfl, Kd.S_mono H13.out (fun _ _ => trivial), B13.out⟩
    · clear hn3 ht1
      go_enter Try.func36, Try.ntmps36
      go_wp2_with (first | ((with_reducible refine gate_dst (N := 3) rfl ?_); refine bx 3 #[.slice none 0 0] 34 ?_; intro g3 hg w3 hbox hb; have BK3 := Aside0.mk hbox; have B3 := Aside0.mk hb; have G3 := Aside0.mk (Nat.le_of_eq hg.symm); clear hb hbox hg) | ((with_reducible refine gate_callee (f := 54) rfl ?_); refine goesL_ (some 12) rfl rfl Try.func54 (by kernel_rfl) rfl #[.int .i64 4] rfl (by (try simp only [List.map_toArray, List.map_cons, List.map_nil]); first | done | rfl | (simp only [List.length_drop, List.length_take]; rfl)) ?_; (with_reducible refine (impl_upTo.calls k 4 ws _ A4.out).mono ?_); rintro e w12 ⟨v12, rfl, ho, hb⟩; refine ⟨_, rfl, ?_⟩; have H12 := Aside0.mk ho; have B12 := Aside0.mk hb; clear ho hb) | (go_at_call 59; (with_reducible refine (impl_wirings.calls k 4 v12 (.slice none 0 0) (.slice none 0 0) g3 ws [] [] r w _ (fun _ => False) ?a1 ?a2 (Kd.R_nil _ _ _ _ _) ?a4 G3.out (fun h => h) (Kd.S_bare (Kd.R_nil _ _ _ _ _)) A5.out).mono ?_); (case a1 => exact below_then B3.out (below_size B3.out) B12.out); (case a2 => exact Kd.R_lower (Kd.R_mono (Kd.R_bound H12.out) (fun k hk h2 => by have h1 := hk.2.1; have h3 := blk_lt BK3.out; rcases h2 with h2 | h2; exact h2; omega)) (below_size B3.out)); (case a4 => exact blk_below BK3.out B12.out); rintro e w13 ⟨rfl, ⟨u', hbk, ho⟩, hb, hk⟩; obtain ⟨A13, c13, e13⟩ := Kd.S_slice ho; subst e13; have hcell := (blk_cell hbk 0).trans rfl; have H13 := Aside0.mk ho; have B13 := Aside0.mk hb; clear ho hb hk hbk))
      go_ret
      exact ⟨_, rfl, Kd.S_mono H13.out (fun _ _ => trivial), B13.out⟩
  · rw [if_neg h34] at h
    obtain rfl := Option.some.inj h
    have c3 : (n == 3) = false := beq_eq_false_iff_ne.mpr (fun e => h34 (.inl e))
    have c4 : (n == 4) = false := beq_eq_false_iff_ne.mpr (fun e => h34 (.inr e))
    have d3 : (n != 3) = true := bne_iff_ne.mpr (fun e => h34 (.inl e))
    have d4 : (n != 4) = true := bne_iff_ne.mpr (fun e => h34 (.inr e))
    have HB := Aside0.mk (Below.refl w.heap.size w)
    clear h h34
    go_enter Try.func36, Try.ntmps36
    go_wp2
    go_ret
    exact ⟨_, rfl, Kd.S_bare (Kd.R_nil _ _ _ _ _), bl HB⟩

/-- A slice of slices whose blocks lie between two places of the heap. -/
abbrev SW (W : World) (base lo hi : Nat) (v : Value) (xs : List (List Int)) : Prop := Kd.S (Kd.slice 3 (Kd.int .i64)) 22 W base (fun k => lo ≤ k ∧ k < hi) v xs
section
variable {w W W2 : World} {base lo hi lo2 hi2 n c : Nat} {A : Option Addr} {v : Value} {ys : List (List Int)}
theorem SW_new (h : Kd.S (Kd.slice 3 (Kd.int .i64)) 22 W2 W.heap.size (fun _ => True) v ys) (hb : w.heap.size ≤ W.heap.size) : SW W2 w.heap.size W.heap.size W2.heap.size v ys := Kd.S_lower (Kd.S_mono (Kd.S_bound h) (fun k hk => ⟨hk.2.1, hk.2.2.1⟩)) hb
theorem SW_kept (h : SW W base lo hi v ys) (hk : Kept W W2 (fun k => lo2 ≤ k ∧ k < hi2)) (hd : hi ≤ lo2 ∨ hi2 ≤ lo) : SW W2 base lo hi v ys := Kd.S_kept h hk (fun k h1 h2 => by omega)
theorem SW_C (h : SW W base lo hi (.slice A n c) ys) : Kd.C (Kd.slice 3 (Kd.int .i64)) W A ys.length ys := (Kd.S_reads' h).2.2
theorem SW_c (h : SW W base lo hi (.slice A n c) ys) : ys.length ≤ c := by have := Kd.S_reads' h; omega
end
set_option maxHeartbeats 8000000 in
set_option maxRecDepth 100000 in
theorem laws_FnExactWiringsOf.calls (k ks ki : Nat) (n : Int) (R R2 : List (List Int)) (m : Int) (w : World) (hS : spec_WiringsOf.f ks n = some R) (hI : impl_WiringsOf.f ki n = some R) (hE : laws_eqIntSS.f k R R = some true) (hM : laws_markIntSS.f k R 1 = some (m, R2)) (hm : ¬ m < 0) (hH : laws_heldIntSS.f k R2 1 = some m) :
    Calls Try.prog 11 #[.int .i64 n] w fun e w' => e = .returned (.bool true) ∧ Below w.heap.size w w' := by
  have HS := Aside0.mk hS
  have HI := Aside0.mk hI
  have HE := Aside0.mk hE
  have HM := Aside0.mk hM
  have HH := Aside0.mk hH
  have b2 : decide (m < 0) = false := decide_eq_false hm
  have b3 : (m == m) = true := beq_self_eq_true m
  have b4 : (m != m) = false := bne_self_eq_false m
  have HB := Aside0.mk (Below.refl w.heap.size w)
  clear hS hI hE hM hH hm
  go_enter Try.func11, Try.ntmps11
  go_wp2_with (first
    | ((with_reducible refine gate_callee (f := 35) rfl ?_); refine goesL_ (some 9) rfl rfl Try.func35 (by kernel_rfl) rfl #[.int .i64 n] rfl (by (try simp only [List.map_toArray, List.map_cons, List.map_nil]); first | done | rfl | (simp only [List.length_drop, List.length_take]; rfl)) ?_; (with_reducible refine (spec_WiringsOf.calls ks n R _ HS.out).mono ?_); rintro e w2 ⟨v9, rfl, ho, hb⟩; refine ⟨_, rfl, ?_⟩; have S0 := Aside0.mk (SW_new (w := w) ho (below_size HB.out)); replace HB := bs HB hb; clear hb ho; obtain ⟨A18, c18, e18⟩ := Kd.S_slice S0.out; subst e18)
    | ((with_reducible refine gate_callee (f := 36) rfl ?_); refine goesL_ (some 11) rfl rfl Try.func36 (by kernel_rfl) rfl #[.int .i64 n] rfl (by (try simp only [List.map_toArray, List.map_cons, List.map_nil]); first | done | rfl | (simp only [List.length_drop, List.length_take]; rfl)) ?_; (with_reducible refine (impl_WiringsOf.calls ki n R _ HI.out).mono ?_); rintro e w4 ⟨v11, rfl, ho, hb⟩; refine ⟨_, rfl, ?_⟩; have n0_ := Aside0.mk (Kd.S_below S0.out hb); have SG := Aside0.mk (SW_new (w := w) ho (below_size HB.out)); replace HB := bs HB hb; clear hb ho S0; have S0 := n0_; clear n0_; obtain ⟨A23, c23, e23⟩ := Kd.S_slice SG.out; subst e23)
    | ((with_reducible refine gate_callee (f := 37) rfl ?_); refine goesL_ (some 14) rfl rfl Try.func37 (by kernel_rfl) rfl #[.slice A23 R.length c23, .slice A18 R.length c18] rfl (by (try simp only [List.map_toArray, List.map_cons, List.map_nil]); first | done | rfl | (simp only [List.length_drop, List.length_take]; rfl)) ?_; (with_reducible refine (laws_eqIntSS.calls k A23 c23 R A18 c18 R true _ (SW_C SG.out) (SW_c SG.out) (SW_C S0.out) (SW_c S0.out) HE.out).mono ?_); rintro e w' ⟨rfl, ⟨nd26, rfl⟩⟩; refine ⟨_, rfl, ?_⟩)
    | ((with_reducible refine gate_callee (f := 38) rfl ?_); refine goesL_ (some 18) rfl rfl Try.func38 (by kernel_rfl) rfl #[.slice A23 R.length c23, .int .i64 1] rfl (by (try simp only [List.map_toArray, List.map_cons, List.map_nil]); first | done | rfl | (simp only [List.length_drop, List.length_take]; rfl)) ?_; (with_reducible refine (laws_markIntSS.calls k (fun k => w2.heap.size ≤ k ∧ k < w4.heap.size) (.slice A23 R.length c23) R 1 m R2 w _ (pw_below_drewN HB.out _) (Kd.S_drewN SG.out _) HM.out).mono ?_); rintro e w7 ⟨rfl, hy, hb, hk⟩; refine ⟨_, rfl, ?_⟩; have n0_ := Aside0.mk (SW_kept (Kd.S_drewN S0.out _) hk (.inl (Nat.le_refl _))); have n2_ := Aside0.mk (show SW w7 w.heap.size 0 w7.heap.size (.slice A23 R.length c23) R2 from Kd.S_mono (Kd.S_bound hy) (fun k hk => ⟨Nat.zero_le _, hk.2.2.1⟩)); have HB2 := Aside0.mk hb; clear hb hy hk S0 SG HB; have S0 := n0_; have SG := n2_; have HB := HB2; clear n0_ n2_ HB2; have HRL := Aside0.mk (Kd.S_reads' SG.out).1)
    | ((with_reducible refine gate_callee (f := 39) rfl ?_); refine goesL_ (some 21) rfl rfl Try.func39 (by kernel_rfl) rfl #[.slice A23 R.length c23, .int .i64 1] rfl (by (try simp only [List.map_toArray, List.map_cons, List.map_nil]); first | done | rfl | (simp only [List.length_drop, List.length_take]; rfl)) ?_; refine calls_of_args (args' := #[.slice A23 R2.length c23, .int .i64 1]) (by rw [HRL.out]) ?_; (with_reducible refine (laws_heldIntSS.calls k A23 c23 R2 1 m _ (SW_C SG.out) (SW_c SG.out) HH.out).mono ?_); rintro e w' ⟨rfl, ⟨nd49, rfl⟩⟩; refine ⟨_, rfl, ?_⟩)
    | ((with_reducible refine gate_callee (f := 36) rfl ?_); refine goesL_ (some 28) rfl rfl Try.func36 (by kernel_rfl) rfl #[.int .i64 n] rfl (by (try simp only [List.map_toArray, List.map_cons, List.map_nil]); first | done | rfl | (simp only [List.length_drop, List.length_take]; rfl)) ?_; (with_reducible refine (impl_WiringsOf.calls ki n R _ HI.out).mono ?_); rintro e w9 ⟨v28, rfl, ho, hb⟩; refine ⟨_, rfl, ?_⟩; have n0_ := Aside0.mk (Kd.S_below (Kd.S_drewN S0.out _) hb); have n2_ := Aside0.mk (Kd.S_below (Kd.S_drewN SG.out _) hb); have SH := Aside0.mk (SW_new (w := w) ho (below_size (pw_below_drewN HB.out _))); replace HB := bs HB hb; clear hb ho S0 SG; have S0 := n0_; have SG := n2_; clear n0_ n2_; obtain ⟨A58, c58, e58⟩ := Kd.S_slice SH.out; subst e58)
    | ((with_reducible refine gate_callee (f := 37) rfl ?_); refine goesL_ (some 31) rfl rfl Try.func37 (by kernel_rfl) rfl #[.slice A58 R.length c58, .slice A18 R.length c18] rfl (by (try simp only [List.map_toArray, List.map_cons, List.map_nil]); first | done | rfl | (simp only [List.length_drop, List.length_take]; rfl)) ?_; (with_reducible refine (laws_eqIntSS.calls k A58 c58 R A18 c18 R true _ (SW_C SH.out) (SW_c SH.out) (SW_C S0.out) (SW_c S0.out) HE.out).mono ?_); rintro e w' ⟨rfl, ⟨nd61, rfl⟩⟩; refine ⟨_, rfl, ?_⟩)
    | ((with_reducible refine gate_callee (f := 39) rfl ?_); refine goesL_ (some 35) rfl rfl Try.func39 (by kernel_rfl) rfl #[.slice A23 R.length c23, .int .i64 1] rfl (by (try simp only [List.map_toArray, List.map_cons, List.map_nil]); first | done | rfl | (simp only [List.length_drop, List.length_take]; rfl)) ?_; refine calls_of_args (args' := #[.slice A23 R2.length c23, .int .i64 1]) (by rw [HRL.out]) ?_; (with_reducible refine (laws_heldIntSS.calls k A23 c23 R2 1 m _ (SW_C (Kd.S_drewN SG.out _)) (SW_c SG.out) HH.out).mono ?_); rintro e w' ⟨rfl, ⟨nd65, rfl⟩⟩; refine ⟨_, rfl, ?_⟩))
  go_ret
  exact ⟨rfl, bl HB⟩

end Go.Proofs.Ytdjaiedfcmjblaa.P
