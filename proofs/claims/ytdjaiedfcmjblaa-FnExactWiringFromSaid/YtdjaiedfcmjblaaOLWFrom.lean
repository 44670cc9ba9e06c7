/- laws.FnExactWiringFrom: what a call of it computes, where both answers are alike. Conditions: what its callees compute. -/
import Derived.Test.YtdjaiedfcmjblaaOMarkSS
import Derived.Test.YtdjaiedfcmjblaaWAll2
import Derived.Test.YtdjaiedfcmjblaaP45
import Derived.Test.YtdjaiedfcmjblaaP47
import Derived.Test.YtdjaiedfcmjblaaP64
import Derived.Test.YtdjaiedfcmjblaaP48
import Derived.Test.YtdjaiedfcmjblaaP37
import Derived.Test.YtdjaiedfcmjblaaP23
namespace Go.Proofs.Ytdjaiedfcmjblaa.P
open Go.RowKit Go.Proofs.YtdjaiedfcmjblaaW.PrintWords Go.Proofs.YtdjaiedfcmjblaaW.PrintLast Go.Proofs.YtdjaiedfcmjblaaW.PrintMore
attribute [local go_sem] max2_int min2_int max_two min_two max_three min_three max_four min_four
set_option linter.unusedVariables false
set_option linter.unusedSimpArgs false

/-- A slice of numbers, or of slices, whose blocks lie between two places of the heap. -/
abbrev RI (W : World) (base lo hi : Nat) (v : Value) (xs : List Int) : Prop := Kd.R (Kd.int .i64) 3 W base (fun k => lo ≤ k ∧ k < hi) v xs
abbrev SI (W : World) (base lo hi : Nat) (v : Value) (xs : List (List Int)) : Prop := Kd.S (Kd.slice 3 (Kd.int .i64)) 22 W base (fun k => lo ≤ k ∧ k < hi) v xs
section
variable {w W W2 : World} {base lo hi lo2 hi2 n c : Nat} {A : Option Addr} {v : Value} {xs : List Int} {ys : List (List Int)}
theorem RI_new (h : Kd.R (Kd.int .i64) 3 W2 W.heap.size (fun _ => True) v xs) (hb : w.heap.size ≤ W.heap.size) : RI W2 w.heap.size W.heap.size W2.heap.size v xs := Kd.R_lower (Kd.R_mono (Kd.R_bound h) (fun k hk => ⟨hk.2.1, hk.2.2.1⟩)) hb
theorem SI_new (h : Kd.S (Kd.slice 3 (Kd.int .i64)) 22 W2 W.heap.size (fun _ => True) v ys) (hb : w.heap.size ≤ W.heap.size) : SI W2 w.heap.size W.heap.size W2.heap.size v ys := Kd.S_lower (Kd.S_mono (Kd.S_bound h) (fun k hk => ⟨hk.2.1, hk.2.2.1⟩)) hb
theorem RI_kept (h : RI W base lo hi v xs) (hk : Kept W W2 (fun k => lo2 ≤ k ∧ k < hi2)) (hd : hi ≤ lo2 ∨ hi2 ≤ lo) : RI W2 base lo hi v xs := Kd.R_kept h hk (fun k h1 h2 => by omega)
theorem SI_kept (h : SI W base lo hi v ys) (hk : Kept W W2 (fun k => lo2 ≤ k ∧ k < hi2)) (hd : hi ≤ lo2 ∨ hi2 ≤ lo) : SI W2 base lo hi v ys := Kd.S_kept h hk (fun k h1 h2 => by omega)
theorem RI_C (h : RI W base lo hi (.slice A n c) xs) : Kd.C (Kd.int .i64) W A xs.length xs := (Kd.R_reads' h).2.2
theorem RI_c (h : RI W base lo hi (.slice A n c) xs) : xs.length ≤ c := by have := Kd.R_reads' h; omega
theorem SI_C (h : SI W base lo hi (.slice A n c) ys) : Kd.C (Kd.slice 3 (Kd.int .i64)) W A ys.length ys := (Kd.S_reads' h).2.2
theorem SI_c (h : SI W base lo hi (.slice A n c) ys) : ys.length ≤ c := by have := Kd.S_reads' h; omega
end
set_option maxHeartbeats 8000000 in
set_option maxRecDepth 100000 in
theorem laws_FnExactWiringFrom.calls_ (k : Nat) (a0 : Int) (A1 : Option Addr) (c1 : Nat) (l1 x2 : List (List Int)) (R R2 : List Int) (b : Bool) (j m z : Int) (w : World) (hr1 : Kd.C (Kd.slice 3 (Kd.int .i64)) w A1 l1.length l1) (hc1 : l1.length ≤ c1)
    (hZ : laws_szIntSS.f k l1 1048576 = some z) (hz : ¬ z < 0) (hT : laws_toIntSS.f k l1 = some l1) (hS : spec_WiringFrom.f k a0 l1 = some (R, b)) (hI : impl_WiringFrom.f k a0 l1 = some (R, b)) (hE : laws_eqIntS.f k R R = some true) (hE1 : laws_eqIntSS.f k l1 l1 = some true) (hM1 : laws_markIntSS.f k l1 1 = some (j, x2)) (hj : ¬ j < 0) (hM : laws_markIntS.f k R 1 = some (m, R2)) (hm : ¬ m < 0) (hH : laws_heldIntS.f k R2 1 = some m) :
    Calls Try.prog 14 #[.int .i64 a0, .slice A1 l1.length c1] w fun e w' => e = .returned (.bool true) ∧ Below w.heap.size w w' := by
  have HR1 := Aside0.mk hr1
  have HC1 := Aside0.mk hc1
  have HZ := Aside0.mk hZ
  have HT := Aside0.mk hT
  have HS := Aside0.mk hS
  have HI := Aside0.mk hI
  have HE := Aside0.mk hE
  have HE1 := Aside0.mk hE1
  have HM1 := Aside0.mk hM1
  have HM := Aside0.mk hM
  have HH := Aside0.mk hH
  have b0 : decide (z < 0) = false := decide_eq_false hz
  have b1 : decide (j < 0) = false := decide_eq_false hj
  have b2 : decide (m < 0) = false := decide_eq_false hm
  have b3 : (m == m) = true := beq_self_eq_true m
  have b4 : (m != m) = false := bne_self_eq_false m
  have b5 : (b != b) = false := bne_self_eq_false b
  have b6 : (b == b) = true := beq_self_eq_true b
  have HB := Aside0.mk (Below.refl w.heap.size w)
  clear hr1 hc1 hZ hT hS hI hE hE1 hM1 hM hH hj hm hz
  go_enter Try.func14, Try.ntmps14
  go_wp2_with (first
    | ((with_reducible refine gate_callee (f := 44) rfl ?_); refine goesL_ (some 18) rfl rfl Try.func44 (by kernel_rfl) rfl #[.slice A1 l1.length c1, .int .i64 1048576] rfl (by (try simp only [List.map_toArray, List.map_cons, List.map_nil]); first | done | rfl | (simp only [List.length_drop, List.length_take]; rfl)) ?_; (with_reducible refine (laws_szIntSS.calls k A1 c1 l1 1048576 z _ HR1.out HC1.out HZ.out).mono ?_); rintro e w' ⟨rfl, ⟨nd18, rfl⟩⟩; refine ⟨_, rfl, ?_⟩)
    | ((with_reducible refine gate_callee (f := 46) rfl ?_); refine goesL_ (some 24) rfl rfl Try.func46 (by kernel_rfl) rfl #[.slice A1 l1.length c1] rfl (by (try simp only [List.map_toArray, List.map_cons, List.map_nil]); first | done | rfl | (simp only [List.length_drop, List.length_take]; rfl)) ?_; (with_reducible refine (laws_toIntSS.calls k A1 c1 l1 l1 _ (Kd.C_drewN (Kd.C_below HR1.out HB.out) _) HC1.out HT.out).mono ?_); rintro e w1 ⟨v24, rfl, ho, hb⟩; refine ⟨_, rfl, ?_⟩; have HX := Aside0.mk ho; replace HB := bs HB hb; clear hb ho; obtain ⟨A24, c24, e24⟩ := Kd.S_slice HX.out; subst e24)
    | ((with_reducible refine gate_callee (f := 45) rfl ?_); refine goesL_ (some 25) rfl rfl Try.func45 (by kernel_rfl) rfl #[.int .i64 a0, .slice A24 l1.length c24] rfl (by (try simp only [List.map_toArray, List.map_cons, List.map_nil]); first | done | rfl | (simp only [List.length_drop, List.length_take]; rfl)) ?_; (with_reducible refine (spec_WiringFrom.calls k a0 A24 c24 l1 R b _ (Kd.S_reads' HX.out).2.2 (Kd.S_reads' HX.out).2.1 HS.out).mono ?_); rintro e w2 ⟨v25, rfl, ho, hb⟩; refine ⟨_, rfl, ?_⟩; have R0 := Aside0.mk (RI_new (w := w) ho (below_size HB.out)); replace HB := bs HB hb; clear hb ho HX; obtain ⟨A25, c25, e25⟩ := Kd.R_slice R0.out; subst e25)
    | ((with_reducible refine gate_callee (f := 46) rfl ?_); refine goesL_ (some 29) rfl rfl Try.func46 (by kernel_rfl) rfl #[.slice A1 l1.length c1] rfl (by (try simp only [List.map_toArray, List.map_cons, List.map_nil]); first | done | rfl | (simp only [List.length_drop, List.length_take]; rfl)) ?_; (with_reducible refine (laws_toIntSS.calls k A1 c1 l1 l1 _ (Kd.C_below HR1.out HB.out) HC1.out HT.out).mono ?_); rintro e w3 ⟨v29, rfl, ho, hb⟩; refine ⟨_, rfl, ?_⟩; have n0_ := Aside0.mk (Kd.R_below R0.out hb); have SX := Aside0.mk (SI_new (w := w) ho (below_size HB.out)); have Z23 := Aside0.mk (below_size hb); replace HB := bs HB hb; clear hb ho R0; have R0 := n0_; clear n0_; obtain ⟨A29, c29, e29⟩ := Kd.S_slice SX.out; subst e29)
    | ((with_reducible refine gate_callee (f := 47) rfl ?_); refine goesL_ (some 33) rfl rfl Try.func47 (by kernel_rfl) rfl #[.int .i64 a0, .slice A29 l1.length c29] rfl (by (try simp only [List.map_toArray, List.map_cons, List.map_nil]); first | done | rfl | (simp only [List.length_drop, List.length_take]; rfl)) ?_; (with_reducible refine (impl_WiringFrom.calls k a0 A29 c29 l1 R b _ (Kd.S_reads' SX.out).2.2 (Kd.S_reads' SX.out).2.1 HI.out).mono ?_); rintro e w4 ⟨v33, rfl, ho, hb⟩; refine ⟨_, rfl, ?_⟩; have n0_ := Aside0.mk (Kd.R_below R0.out hb); have n1_ := Aside0.mk (Kd.S_below SX.out hb); have RG := Aside0.mk (RI_new (w := w) ho (below_size HB.out)); replace HB := bs HB hb; clear hb ho R0 SX; have R0 := n0_; have SX := n1_; clear n0_ n1_; obtain ⟨A33, c33, e33⟩ := Kd.R_slice RG.out; subst e33)
    | ((with_reducible refine gate_callee (f := 18) rfl ?_); refine goesL_ (some 38) rfl rfl Try.func18 (by kernel_rfl) rfl #[.slice A33 R.length c33, .slice A25 R.length c25] rfl (by (try simp only [List.map_toArray, List.map_cons, List.map_nil]); first | done | rfl | (simp only [List.length_drop, List.length_take]; rfl)) ?_; (with_reducible refine (laws_eqIntS.calls k A33 c33 R A25 c25 R true _ (RI_C RG.out) (RI_c RG.out) (RI_C R0.out) (RI_c R0.out) HE.out).mono ?_); rintro e w' ⟨rfl, ⟨nd38, rfl⟩⟩; refine ⟨_, rfl, ?_⟩)
    | ((with_reducible refine gate_callee (f := 46) rfl ?_); refine goesL_ (some 47) rfl rfl Try.func46 (by kernel_rfl) rfl #[.slice A1 l1.length c1] rfl (by (try simp only [List.map_toArray, List.map_cons, List.map_nil]); first | done | rfl | (simp only [List.length_drop, List.length_take]; rfl)) ?_; (with_reducible refine (laws_toIntSS.calls k A1 c1 l1 l1 _ (Kd.C_drewN (Kd.C_below HR1.out HB.out) _) HC1.out HT.out).mono ?_); rintro e w5 ⟨v47, rfl, ho, hb⟩; refine ⟨_, rfl, ?_⟩; have n0_ := Aside0.mk (Kd.R_below (Kd.R_drewN R0.out _) hb); have n1_ := Aside0.mk (Kd.S_below (Kd.S_drewN SX.out _) hb); have n2_ := Aside0.mk (Kd.R_below (Kd.R_drewN RG.out _) hb); have HY := Aside0.mk ho; replace HB := bs HB hb; clear hb ho R0 SX RG; have R0 := n0_; have SX := n1_; have RG := n2_; clear n0_ n1_ n2_; obtain ⟨A47, c47, e47⟩ := Kd.S_slice HY.out; subst e47)
    | ((with_reducible refine gate_callee (f := 37) rfl ?_); refine goesL_ (some 48) rfl rfl Try.func37 (by kernel_rfl) rfl #[.slice A29 l1.length c29, .slice A47 l1.length c47] rfl (by (try simp only [List.map_toArray, List.map_cons, List.map_nil]); first | done | rfl | (simp only [List.length_drop, List.length_take]; rfl)) ?_; (with_reducible refine (laws_eqIntSS.calls k A29 c29 l1 A47 c47 l1 true _ (SI_C SX.out) (SI_c SX.out) (Kd.S_reads' HY.out).2.2 (Kd.S_reads' HY.out).2.1 HE1.out).mono ?_); rintro e w' ⟨rfl, ⟨nd48, rfl⟩⟩; refine ⟨_, rfl, ?_⟩)
    | ((with_reducible refine gate_callee (f := 38) rfl ?_); refine goesL_ (some 52) rfl rfl Try.func38 (by kernel_rfl) rfl #[.slice A29 l1.length c29, .int .i64 1] rfl (by (try simp only [List.map_toArray, List.map_cons, List.map_nil]); first | done | rfl | (simp only [List.length_drop, List.length_take]; rfl)) ?_; (with_reducible refine (laws_markIntSS.calls k (fun k => w2.heap.size ≤ k ∧ k < w3.heap.size) (.slice A29 l1.length c29) l1 1 j x2 w _ (pw_below_drewN HB.out _) (Kd.S_drewN SX.out _) HM1.out).mono ?_); rintro e w6 ⟨rfl, hy, hb, hk⟩; refine ⟨_, rfl, ?_⟩; have n0_ := Aside0.mk (RI_kept (Kd.R_drewN R0.out _) hk (.inl (Nat.le_refl _))); have n2_ := Aside0.mk (RI_kept (Kd.R_drewN RG.out _) hk (.inr (Nat.le_refl _))); have HB2 := Aside0.mk hb; clear hb hy hk R0 SX RG HY HB; have R0 := n0_; have RG := n2_; have HB := HB2; clear n0_ n2_ HB2)
    | ((with_reducible refine gate_callee (f := 23) rfl ?_); refine goesL_ (some 68) rfl rfl Try.func23 (by kernel_rfl) rfl #[.slice A33 R.length c33, .int .i64 1] rfl (by (try simp only [List.map_toArray, List.map_cons, List.map_nil]); first | done | rfl | (simp only [List.length_drop, List.length_take]; rfl)) ?_; (with_reducible refine (laws_markIntS.calls k (fun k => w3.heap.size ≤ k ∧ k < w4.heap.size) (.slice A33 R.length c33) R 1 m R2 w _ (pw_below_drewN HB.out _) (Kd.R_drewN RG.out _) HM.out).mono ?_); rintro e w7 ⟨rfl, hy, hb, hk⟩; refine ⟨_, rfl, ?_⟩; have n0_ := Aside0.mk (RI_kept (Kd.R_drewN R0.out _) hk (.inl Z23.out)); have n2_ := Aside0.mk (show RI w7 w.heap.size 0 w7.heap.size (.slice A33 R.length c33) R2 from Kd.R_mono (Kd.R_bound hy) (fun k hk => ⟨Nat.zero_le _, hk.2.2.1⟩)); have HB2 := Aside0.mk hb; clear hb hy hk R0 RG HB; have R0 := n0_; have RG := n2_; have HB := HB2; clear n0_ n2_ HB2; have HRL := Aside0.mk (Kd.R_reads' RG.out).1)
    | ((with_reducible refine gate_callee (f := 24) rfl ?_); refine goesL_ (some 71) rfl rfl Try.func24 (by kernel_rfl) rfl #[.slice A33 R.length c33, .int .i64 1] rfl (by (try simp only [List.map_toArray, List.map_cons, List.map_nil]); first | done | rfl | (simp only [List.length_drop, List.length_take]; rfl)) ?_; refine calls_of_args (args' := #[.slice A33 R2.length c33, .int .i64 1]) (by rw [HRL.out]) ?_; (with_reducible refine (laws_heldIntS.calls k A33 c33 R2 1 m _ (RI_C RG.out) (RI_c RG.out) HH.out).mono ?_); rintro e w' ⟨rfl, ⟨nd71, rfl⟩⟩; refine ⟨_, rfl, ?_⟩)
    | ((with_reducible refine gate_callee (f := 46) rfl ?_); refine goesL_ (some 80) rfl rfl Try.func46 (by kernel_rfl) rfl #[.slice A1 l1.length c1] rfl (by (try simp only [List.map_toArray, List.map_cons, List.map_nil]); first | done | rfl | (simp only [List.length_drop, List.length_take]; rfl)) ?_; (with_reducible refine (laws_toIntSS.calls k A1 c1 l1 l1 _ (Kd.C_drewN (Kd.C_below HR1.out HB.out) _) HC1.out HT.out).mono ?_); rintro e w8 ⟨v80, rfl, ho, hb⟩; refine ⟨_, rfl, ?_⟩; have n0_ := Aside0.mk (Kd.R_below (Kd.R_drewN R0.out _) hb); have n2_ := Aside0.mk (Kd.R_below (Kd.R_drewN RG.out _) hb); have HY := Aside0.mk ho; replace HB := bs HB hb; clear hb ho R0 RG; have R0 := n0_; have RG := n2_; clear n0_ n2_; obtain ⟨A80, c80, e80⟩ := Kd.S_slice HY.out; subst e80)
    | ((with_reducible refine gate_callee (f := 47) rfl ?_); refine goesL_ (some 81) rfl rfl Try.func47 (by kernel_rfl) rfl #[.int .i64 a0, .slice A80 l1.length c80] rfl (by (try simp only [List.map_toArray, List.map_cons, List.map_nil]); first | done | rfl | (simp only [List.length_drop, List.length_take]; rfl)) ?_; (with_reducible refine (impl_WiringFrom.calls k a0 A80 c80 l1 R b _ (Kd.S_reads' HY.out).2.2 (Kd.S_reads' HY.out).2.1 HI.out).mono ?_); rintro e w9 ⟨v81, rfl, ho, hb⟩; refine ⟨_, rfl, ?_⟩; have n0_ := Aside0.mk (Kd.R_below R0.out hb); have n2_ := Aside0.mk (Kd.R_below RG.out hb); have RH := Aside0.mk (RI_new (w := w) ho (below_size HB.out)); replace HB := bs HB hb; clear hb ho R0 RG HY; have R0 := n0_; have RG := n2_; clear n0_ n2_; obtain ⟨A81, c81, e81⟩ := Kd.R_slice RH.out; subst e81)
    | ((with_reducible refine gate_callee (f := 18) rfl ?_); refine goesL_ (some 86) rfl rfl Try.func18 (by kernel_rfl) rfl #[.slice A81 R.length c81, .slice A25 R.length c25] rfl (by (try simp only [List.map_toArray, List.map_cons, List.map_nil]); first | done | rfl | (simp only [List.length_drop, List.length_take]; rfl)) ?_; (with_reducible refine (laws_eqIntS.calls k A81 c81 R A25 c25 R true _ (RI_C RH.out) (RI_c RH.out) (RI_C R0.out) (RI_c R0.out) HE.out).mono ?_); rintro e w' ⟨rfl, ⟨nd86, rfl⟩⟩; refine ⟨_, rfl, ?_⟩)
    | ((with_reducible refine gate_callee (f := 24) rfl ?_); refine goesL_ (some 95) rfl rfl Try.func24 (by kernel_rfl) rfl #[.slice A33 R.length c33, .int .i64 1] rfl (by (try simp only [List.map_toArray, List.map_cons, List.map_nil]); first | done | rfl | (simp only [List.length_drop, List.length_take]; rfl)) ?_; refine calls_of_args (args' := #[.slice A33 R2.length c33, .int .i64 1]) (by rw [HRL.out]) ?_; (with_reducible refine (laws_heldIntS.calls k A33 c33 R2 1 m _ (RI_C (Kd.R_drewN RG.out _)) (RI_c RG.out) HH.out).mono ?_); rintro e w' ⟨rfl, ⟨nd95, rfl⟩⟩; refine ⟨_, rfl, ?_⟩)
    | (go_at_call 18; (with_reducible refine (laws_eqIntS.calls k A33 c33 R A25 c25 R true _ (RI_C RG.out) (RI_c RG.out) (RI_C R0.out) (RI_c R0.out) HE.out).mono ?_); rintro e w' ⟨rfl, ⟨nd58, rfl⟩⟩))
  go_ret
  exact ⟨rfl, bl HB⟩
set_option maxHeartbeats 8000000 in
set_option maxRecDepth 100000 in
theorem laws_FnExactWiringFrom.long (k : Nat) (a0 : Int) (A1 : Option Addr) (c1 : Nat) (l1 : List (List Int)) (z : Int) (w : World) (hr1 : Kd.C (Kd.slice 3 (Kd.int .i64)) w A1 l1.length l1) (hc1 : l1.length ≤ c1) (hZ : laws_szIntSS.f k l1 1048576 = some z) (hz : z < 0) :
    Calls Try.prog 14 #[.int .i64 a0, .slice A1 l1.length c1] w fun e w' => e = .returned (.bool true) ∧ Below w.heap.size w w' := by
  have HR1 := Aside0.mk hr1
  have HC1 := Aside0.mk hc1
  have HZ := Aside0.mk hZ
  have b0 : decide (z < 0) = true := decide_eq_true hz
  have HB := Aside0.mk (Below.refl w.heap.size w)
  clear hr1 hc1 hZ hz
  go_enter Try.func14, Try.ntmps14
  go_wp2_with (first
    | ((with_reducible refine gate_callee (f := 44) rfl ?_); refine goesL_ (some 18) rfl rfl Try.func44 (by kernel_rfl) rfl #[.slice A1 l1.length c1, .int .i64 1048576] rfl (by (try simp only [List.map_toArray, List.map_cons, List.map_nil]); first | done | rfl | (simp only [List.length_drop, List.length_take]; rfl)) ?_; (with_reducible refine (laws_szIntSS.calls k A1 c1 l1 1048576 z _ HR1.out HC1.out HZ.out).mono ?_); rintro e w' ⟨rfl, ⟨nd18, rfl⟩⟩; refine ⟨_, rfl, ?_⟩))
  go_ret
  exact ⟨rfl, bl HB⟩

end Go.Proofs.Ytdjaiedfcmjblaa.P
