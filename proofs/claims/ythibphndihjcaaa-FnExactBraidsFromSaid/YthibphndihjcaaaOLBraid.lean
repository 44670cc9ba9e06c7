/- laws.FnExactBraidsFrom: what a call of it computes, where both answers are alike. Conditions: what its callees compute. -/
import Derived.Test.YthibphndihjcaaaOBra
import Derived.Test.YthibphndihjcaaaOBraS
import Derived.Test.YthibphndihjcaaaOMarkSS
import Derived.Test.YthibphndihjcaaaWAll2

import Derived.Test.YthibphndihjcaaaP57
import Derived.Test.YthibphndihjcaaaP17
import Derived.Test.YthibphndihjcaaaP25
import Derived.Test.YthibphndihjcaaaP26
namespace Go.Proofs.Ythibphndihjcaaa.P
open Go.RowKit Go.Proofs.YthibphndihjcaaaW.PrintWords Go.Proofs.YthibphndihjcaaaW.PrintLast Go.Proofs.YthibphndihjcaaaW.PrintMore
attribute [local go_sem] max2_int min2_int max_two min_two max_three min_three max_four min_four
set_option linter.unusedVariables false
set_option linter.unusedSimpArgs false

/-- A slice of slices whose blocks lie between two places of the heap. -/
abbrev SB (W : World) (base lo hi : Nat) (v : Value) (xs : List (List Int)) : Prop := Kd.S (Kd.slice 3 (Kd.int .i64)) 22 W base (fun k => lo ≤ k ∧ k < hi) v xs
theorem SB_new {w W W2 : World} {v : Value} {xs : List (List Int)} (h : Kd.S (Kd.slice 3 (Kd.int .i64)) 22 W2 W.heap.size (fun _ => True) v xs) (hb : w.heap.size ≤ W.heap.size) : SB W2 w.heap.size W.heap.size W2.heap.size v xs :=
  Kd.S_lower (Kd.S_mono (Kd.S_bound h) (fun k hk => ⟨hk.2.1, hk.2.2.1⟩)) hb
theorem SB_below {W W2 : World} {base lo hi : Nat} {v : Value} {xs : List (List Int)} (h : SB W base lo hi v xs) (hb : Below W.heap.size W W2) : SB W2 base lo hi v xs := Kd.S_below h hb
theorem SB_drewN {W : World} {base lo hi : Nat} {v : Value} {xs : List (List Int)} (h : SB W base lo hi v xs) (n : Nat) : SB (W.drewN n) base lo hi v xs := Kd.S_drewN h n
theorem SB_kept {W W2 : World} {base lo hi lo2 hi2 : Nat} {v : Value} {xs : List (List Int)} (h : SB W base lo hi v xs) (hk : Kept W W2 (fun k => lo2 ≤ k ∧ k < hi2)) (hd : hi ≤ lo2 ∨ hi2 ≤ lo) : SB W2 base lo hi v xs := Kd.S_kept h hk (fun k h1 h2 => by omega)
theorem SB_C {W : World} {base lo hi n c : Nat} {A : Option Addr} {xs : List (List Int)} (h : SB W base lo hi (.slice A n c) xs) : Kd.C (Kd.slice 3 (Kd.int .i64)) W A xs.length xs := (Kd.S_reads' h).2.2
theorem SB_c {W : World} {base lo hi n c : Nat} {A : Option Addr} {xs : List (List Int)} (h : SB W base lo hi (.slice A n c) xs) : xs.length ≤ c := by have := Kd.S_reads' h; omega
theorem SBn_C {W : World} {base lo hi n c : Nat} {A : Option Addr} {xs : List (List Int)} (h : SB W base lo hi (.slice A n c) xs) : Kd.C (Kd.slice 3 (Kd.int .i64)) W A xs.length xs := (Kd.S_reads' h).2.2
theorem SBn_c {W : World} {base lo hi n c : Nat} {A : Option Addr} {xs : List (List Int)} (h : SB W base lo hi (.slice A n c) xs) : xs.length ≤ c := by have := Kd.S_reads' h; omega
set_option maxHeartbeats 8000000 in
set_option maxRecDepth 100000 in
theorem laws_FnExactBraidsFrom.calls (k : Nat) (a0 : Int) (A1 : Option Addr) (c1 : Nat) (l1 x2 : List Int) (R R2 : List (List Int)) (j m : Int) (w : World) (hr1 : Kd.C (Kd.int .i64) w A1 l1.length l1) (hc1 : l1.length ≤ c1) (hlen : ¬ ((l1.length : Int) > 1048576))
    (hT : laws_toIntS.f k l1 = some l1) (hS : spec_BraidsFrom.f k a0 l1 = some R) (hI : impl_BraidsFrom.f k a0 l1 = some R) (hE : laws_eqIntSS.f k R R = some true) (hE1 : laws_eqIntS.f k l1 l1 = some true) (hM1 : laws_markIntS.f k l1 1 = some (j, x2)) (hj : ¬ j < 0) (hM : laws_markIntSS.f k R 1 = some (m, R2)) (hm : ¬ m < 0) (hH : laws_heldIntSS.f k R2 1 = some m) :
    Calls Try.prog 13 #[.int .i64 a0, .slice A1 l1.length c1] w fun e w' => e = .returned (.bool true) ∧ Below w.heap.size w w' := by
  have HR1 := Aside0.mk hr1
  have HC1 := Aside0.mk hc1
  have HT := Aside0.mk hT
  have HS := Aside0.mk hS
  have HI := Aside0.mk hI
  have HE := Aside0.mk hE
  have HE1 := Aside0.mk hE1
  have HM1 := Aside0.mk hM1
  have HM := Aside0.mk hM
  have HH := Aside0.mk hH
  have b0 : decide (1048576 < (l1.length : Int)) = false := decide_eq_false (by omega)
  have b1 : decide (j < 0) = false := decide_eq_false hj
  have b2 : decide (m < 0) = false := decide_eq_false hm
  have b3 : (m == m) = true := beq_self_eq_true m
  have b4 : (m != m) = false := bne_self_eq_false m
  have HB := Aside0.mk (Below.refl w.heap.size w)
  have HZ := Aside0.mk (Nat.le_refl w.heap.size)
  clear hr1 hc1 hT hS hI hE hE1 hM1 hM hH hj hm hlen
  go_enter Try.func13, Try.ntmps13
  go_wp2_with (first
    | ((with_reducible refine gate_callee (f := 15) rfl ?_); refine goesL_ (some 17) rfl rfl Try.func15 (by kernel_rfl) rfl #[.slice A1 l1.length c1] rfl (by (try simp only [List.map_toArray, List.map_cons, List.map_nil]); first | done | rfl | (simp only [List.length_drop, List.length_take]; rfl)) ?_; (with_reducible refine (laws_toIntS.calls k A1 c1 l1 l1 _ (Kd.C_below HR1.out HB.out) HC1.out HT.out).mono ?_); rintro e w1 ⟨v17, rfl, ho, hb⟩; refine ⟨_, rfl, ?_⟩; have HX := Aside0.mk ho; replace HB := bs HB hb; clear hb ho; obtain ⟨A17, c17, e17⟩ := Kd.R_slice HX.out; subst e17)
    | ((with_reducible refine gate_callee (f := 44) rfl ?_); refine goesL_ (some 18) rfl rfl Try.func44 (by kernel_rfl) rfl #[.int .i64 a0, .slice A17 l1.length c17] rfl (by (try simp only [List.map_toArray, List.map_cons, List.map_nil]); first | done | rfl | (simp only [List.length_drop, List.length_take]; rfl)) ?_; (with_reducible refine (spec_BraidsFrom.calls k a0 A17 c17 l1 R _ (Kd.R_reads' HX.out).2.2 (Kd.R_reads' HX.out).2.1 HS.out).mono ?_); rintro e w2 ⟨v18, rfl, ho, hb⟩; refine ⟨_, rfl, ?_⟩; have S0 := Aside0.mk (SB_new (w := w) ho (below_size HB.out)); replace HB := bs HB hb; clear hb ho HX; obtain ⟨A18, c18, e18⟩ := Kd.S_slice S0.out; subst e18)
    | ((with_reducible refine gate_callee (f := 15) rfl ?_); refine goesL_ (some 20) rfl rfl Try.func15 (by kernel_rfl) rfl #[.slice A1 l1.length c1] rfl (by (try simp only [List.map_toArray, List.map_cons, List.map_nil]); first | done | rfl | (simp only [List.length_drop, List.length_take]; rfl)) ?_; (with_reducible refine (laws_toIntS.calls k A1 c1 l1 l1 _ (Kd.C_below HR1.out HB.out) HC1.out HT.out).mono ?_); rintro e w3 ⟨v20, rfl, ho, hb⟩; refine ⟨_, rfl, ?_⟩; have n0_ := Aside0.mk (SB_below S0.out hb); have HX := Aside0.mk (Kd.R_lower (Kd.R_mono (Kd.R_bound ho) (ok' := fun k => w2.heap.size ≤ k ∧ k < w3.heap.size) (fun k hk => ⟨hk.2.1, hk.2.2.1⟩)) (below_size HB.out)); have Z2 := Aside0.mk (below_size hb); replace HB := bs HB hb; clear hb ho S0; have S0 := n0_; clear n0_; obtain ⟨A20, c20, e20⟩ := Kd.R_slice HX.out; subst e20)
    | ((with_reducible refine gate_callee (f := 45) rfl ?_); refine goesL_ (some 23) rfl rfl Try.func45 (by kernel_rfl) rfl #[.int .i64 a0, .slice A20 l1.length c20] rfl (by (try simp only [List.map_toArray, List.map_cons, List.map_nil]); first | done | rfl | (simp only [List.length_drop, List.length_take]; rfl)) ?_; (with_reducible refine (impl_BraidsFrom.calls k a0 A20 c20 l1 R _ (Kd.R_reads' HX.out).2.2 (Kd.R_reads' HX.out).2.1 HI.out).mono ?_); rintro e w4 ⟨v23, rfl, ho, hb⟩; refine ⟨_, rfl, ?_⟩; have n0_ := Aside0.mk (SB_below S0.out hb); have n1_ := Aside0.mk (Kd.R_below HX.out hb); have SG := Aside0.mk (SB_new (w := w) ho (below_size HB.out)); replace HB := bs HB hb; clear hb ho S0 HX; have S0 := n0_; have HX := n1_; clear n0_ n1_; obtain ⟨A23, c23, e23⟩ := Kd.S_slice SG.out; subst e23)
    | ((with_reducible refine gate_callee (f := 25) rfl ?_); refine goesL_ (some 26) rfl rfl Try.func25 (by kernel_rfl) rfl #[.slice A23 R.length c23, .slice A18 R.length c18] rfl (by (try simp only [List.map_toArray, List.map_cons, List.map_nil]); first | done | rfl | (simp only [List.length_drop, List.length_take]; rfl)) ?_; (with_reducible refine (laws_eqIntSS.calls k A23 c23 R A18 c18 R true _ (SB_C SG.out) (SB_c SG.out) (SB_C S0.out) (SB_c S0.out) HE.out).mono ?_); rintro e w' ⟨rfl, ⟨nd26, rfl⟩⟩; refine ⟨_, rfl, ?_⟩)
    | ((with_reducible refine gate_callee (f := 15) rfl ?_); refine goesL_ (some 30) rfl rfl Try.func15 (by kernel_rfl) rfl #[.slice A1 l1.length c1] rfl (by (try simp only [List.map_toArray, List.map_cons, List.map_nil]); first | done | rfl | (simp only [List.length_drop, List.length_take]; rfl)) ?_; (with_reducible refine (laws_toIntS.calls k A1 c1 l1 l1 _ (Kd.C_drewN (Kd.C_below HR1.out HB.out) _) HC1.out HT.out).mono ?_); rintro e w5 ⟨v30, rfl, ho, hb⟩; refine ⟨_, rfl, ?_⟩; have n0_ := Aside0.mk (SB_below (SB_drewN S0.out _) hb); have n1_ := Aside0.mk (Kd.R_below (Kd.R_drewN HX.out _) hb); have n2_ := Aside0.mk (SB_below (SB_drewN SG.out _) hb); have HY := Aside0.mk ho; replace HB := bs HB hb; clear hb ho S0 HX SG; have S0 := n0_; have HX := n1_; have SG := n2_; clear n0_ n1_ n2_; obtain ⟨A30, c30, e30⟩ := Kd.R_slice HY.out; subst e30)
    | ((with_reducible refine gate_callee (f := 17) rfl ?_); refine goesL_ (some 31) rfl rfl Try.func17 (by kernel_rfl) rfl #[.slice A20 l1.length c20, .slice A30 l1.length c30] rfl (by (try simp only [List.map_toArray, List.map_cons, List.map_nil]); first | done | rfl | (simp only [List.length_drop, List.length_take]; rfl)) ?_; (with_reducible refine (laws_eqIntS.calls k A20 c20 l1 A30 c30 l1 true _ (Kd.R_reads' HX.out).2.2 (Kd.R_reads' HX.out).2.1 (Kd.R_reads' HY.out).2.2 (Kd.R_reads' HY.out).2.1 HE1.out).mono ?_); rintro e w' ⟨rfl, ⟨nd31, rfl⟩⟩; refine ⟨_, rfl, ?_⟩)
    | ((with_reducible refine gate_callee (f := 26) rfl ?_); refine goesL_ (some 35) rfl rfl Try.func26 (by kernel_rfl) rfl #[.slice A20 l1.length c20, .int .i64 1] rfl (by (try simp only [List.map_toArray, List.map_cons, List.map_nil]); first | done | rfl | (simp only [List.length_drop, List.length_take]; rfl)) ?_; (with_reducible refine (laws_markIntS.calls k (fun k => w2.heap.size ≤ k ∧ k < w3.heap.size) (.slice A20 l1.length c20) l1 1 j x2 w _ (pw_below_drewN HB.out _) (Kd.R_drewN HX.out _) HM1.out).mono ?_); rintro e w6 ⟨rfl, hy, hb, hk⟩; refine ⟨_, rfl, ?_⟩; have n0_ := Aside0.mk (SB_kept (SB_drewN S0.out _) hk (.inl (Nat.le_refl _))); have n2_ := Aside0.mk (SB_kept (SB_drewN SG.out _) hk (.inr (Nat.le_refl _))); have HB2 := Aside0.mk hb; clear hb hy hk S0 HX SG HY HB; have S0 := n0_; have SG := n2_; have HB := HB2; clear n0_ n2_ HB2)
    | ((with_reducible refine gate_callee (f := 27) rfl ?_); refine goesL_ (some 46) rfl rfl Try.func27 (by kernel_rfl) rfl #[.slice A23 R.length c23, .int .i64 1] rfl (by (try simp only [List.map_toArray, List.map_cons, List.map_nil]); first | done | rfl | (simp only [List.length_drop, List.length_take]; rfl)) ?_; (with_reducible refine (laws_markIntSS.calls k (fun k => w3.heap.size ≤ k ∧ k < w4.heap.size) (.slice A23 R.length c23) R 1 m R2 w _ (pw_below_drewN HB.out _) (SB_drewN SG.out _) HM.out).mono ?_); rintro e w7 ⟨rfl, hy, hb, hk⟩; refine ⟨_, rfl, ?_⟩; have n0_ := Aside0.mk (SB_kept (SB_drewN S0.out _) hk (.inl Z2.out)); have n2_ := Aside0.mk (show SB w7 w.heap.size 0 w7.heap.size (.slice A23 R.length c23) R2 from Kd.S_mono (Kd.S_bound hy) (fun k hk => ⟨Nat.zero_le _, hk.2.2.1⟩)); have HB2 := Aside0.mk hb; clear hb hy hk S0 SG HB; have S0 := n0_; have SG := n2_; have HB := HB2; clear n0_ n2_ HB2; have HRL := Aside0.mk (Kd.S_reads' SG.out).1)
    | ((with_reducible refine gate_callee (f := 28) rfl ?_); refine goesL_ (some 49) rfl rfl Try.func28 (by kernel_rfl) rfl #[.slice A23 R.length c23, .int .i64 1] rfl (by (try simp only [List.map_toArray, List.map_cons, List.map_nil]); first | done | rfl | (simp only [List.length_drop, List.length_take]; rfl)) ?_; refine calls_of_args (args' := #[.slice A23 R2.length c23, .int .i64 1]) (by rw [HRL.out]) ?_; (with_reducible refine (laws_heldIntSS.calls k A23 c23 R2 1 m _ (SBn_C SG.out) (SBn_c SG.out) HH.out).mono ?_); rintro e w' ⟨rfl, ⟨nd49, rfl⟩⟩; refine ⟨_, rfl, ?_⟩)
    | ((with_reducible refine gate_callee (f := 15) rfl ?_); refine goesL_ (some 57) rfl rfl Try.func15 (by kernel_rfl) rfl #[.slice A1 l1.length c1] rfl (by (try simp only [List.map_toArray, List.map_cons, List.map_nil]); first | done | rfl | (simp only [List.length_drop, List.length_take]; rfl)) ?_; (with_reducible refine (laws_toIntS.calls k A1 c1 l1 l1 _ (Kd.C_drewN (Kd.C_below HR1.out HB.out) _) HC1.out HT.out).mono ?_); rintro e w8 ⟨v57, rfl, ho, hb⟩; refine ⟨_, rfl, ?_⟩; have n0_ := Aside0.mk (SB_below (SB_drewN S0.out _) hb); have n2_ := Aside0.mk (SB_below (SB_drewN SG.out _) hb); have HY := Aside0.mk ho; replace HB := bs HB hb; clear hb ho S0 SG; have S0 := n0_; have SG := n2_; clear n0_ n2_; obtain ⟨A57, c57, e57⟩ := Kd.R_slice HY.out; subst e57)
    | ((with_reducible refine gate_callee (f := 45) rfl ?_); refine goesL_ (some 58) rfl rfl Try.func45 (by kernel_rfl) rfl #[.int .i64 a0, .slice A57 l1.length c57] rfl (by (try simp only [List.map_toArray, List.map_cons, List.map_nil]); first | done | rfl | (simp only [List.length_drop, List.length_take]; rfl)) ?_; (with_reducible refine (impl_BraidsFrom.calls k a0 A57 c57 l1 R _ (Kd.R_reads' HY.out).2.2 (Kd.R_reads' HY.out).2.1 HI.out).mono ?_); rintro e w9 ⟨v58, rfl, ho, hb⟩; refine ⟨_, rfl, ?_⟩; have n0_ := Aside0.mk (SB_below S0.out hb); have n2_ := Aside0.mk (SB_below SG.out hb); have SH := Aside0.mk (SB_new (w := w) ho (below_size HB.out)); replace HB := bs HB hb; clear hb ho S0 SG HY; have S0 := n0_; have SG := n2_; clear n0_ n2_; obtain ⟨A58, c58, e58⟩ := Kd.S_slice SH.out; subst e58)
    | ((with_reducible refine gate_callee (f := 25) rfl ?_); refine goesL_ (some 61) rfl rfl Try.func25 (by kernel_rfl) rfl #[.slice A58 R.length c58, .slice A18 R.length c18] rfl (by (try simp only [List.map_toArray, List.map_cons, List.map_nil]); first | done | rfl | (simp only [List.length_drop, List.length_take]; rfl)) ?_; (with_reducible refine (laws_eqIntSS.calls k A58 c58 R A18 c18 R true _ (SB_C SH.out) (SB_c SH.out) (SB_C S0.out) (SB_c S0.out) HE.out).mono ?_); rintro e w' ⟨rfl, ⟨nd61, rfl⟩⟩; refine ⟨_, rfl, ?_⟩)
    | ((with_reducible refine gate_callee (f := 28) rfl ?_); refine goesL_ (some 65) rfl rfl Try.func28 (by kernel_rfl) rfl #[.slice A23 R.length c23, .int .i64 1] rfl (by (try simp only [List.map_toArray, List.map_cons, List.map_nil]); first | done | rfl | (simp only [List.length_drop, List.length_take]; rfl)) ?_; refine calls_of_args (args' := #[.slice A23 R2.length c23, .int .i64 1]) (by rw [HRL.out]) ?_; (with_reducible refine (laws_heldIntSS.calls k A23 c23 R2 1 m _ (SBn_C (SB_drewN SG.out _)) (SBn_c SG.out) HH.out).mono ?_); rintro e w' ⟨rfl, ⟨nd65, rfl⟩⟩; refine ⟨_, rfl, ?_⟩)
    | (go_at_call 25; (with_reducible refine (laws_eqIntSS.calls k A23 c23 R A18 c18 R true _ (SB_C SG.out) (SB_c SG.out) (SB_C S0.out) (SB_c S0.out) HE.out).mono ?_); rintro e w' ⟨rfl, ⟨nd41, rfl⟩⟩))
  go_ret
  exact ⟨rfl, bl HB⟩

set_option maxHeartbeats 8000000 in
set_option maxRecDepth 100000 in
theorem laws_FnExactBraidsFrom.long (a0 : Int) (A1 : Option Addr) (c1 : Nat) (l1 : List Int) (w : World) (hlen : (l1.length : Int) > 1048576) :
    Calls Try.prog 13 #[.int .i64 a0, .slice A1 l1.length c1] w fun e w' => e = .returned (.bool true) ∧ Below w.heap.size w w' := by
  have b0 : decide (1048576 < (l1.length : Int)) = true := decide_eq_true hlen
  have HB := Aside0.mk (Below.refl w.heap.size w)
  clear hlen
  go_enter Try.func13, Try.ntmps13
  go_wp2
  go_ret
  exact ⟨rfl, bl HB⟩

end Go.Proofs.Ythibphndihjcaaa.P
