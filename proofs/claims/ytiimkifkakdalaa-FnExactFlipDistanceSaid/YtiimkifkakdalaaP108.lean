-- Printed by a program of this session (wip/tools/myprint.py, over the kit's print.py); not trusted: Lean checks it.
import Derived.Test.YtiimkifkakdalaaP0
import Derived.Test.YtiimkifkakdalaaP10
import Derived.Test.YtiimkifkakdalaaP68
namespace Go.Proofs.Ytiimkifkakdalaa.P
open Go.RowKit Go.Proofs.YtiimkifkakdalaaW.PrintWords Go.Proofs.YtiimkifkakdalaaW.PrintLast Go.Proofs.YtiimkifkakdalaaW.PrintMore
attribute [local go_sem] max2_int min2_int max_two min_two max_three min_three max_four min_four   -- for this text's walks alone
set_option linter.unusedVariables false
set_option linter.unusedSimpArgs false

/-! ### spec_IsMatroid: function 108 -/
def spec_IsMatroid.f (k : Nat) (a0_0 : Int) (a0_1 : ByteArray) : Option (Bool) := (spec_AreSigns.f k a0_0 a0_1).bind fun t141 => (if t141 = true then ((spec_FirstBreak.f k a0_0 a0_1).bind fun t142 => (some ((t142.length : Int) == 0))) else (some false))
theorem spec_IsMatroid.mono : ∀ a0 a1 k, LeO (spec_IsMatroid.f k a0 a1) (spec_IsMatroid.f (k + 1) a0 a1) := by
 intro a0 a1 k
 unfold spec_IsMatroid.f
 repeat' first
   | (with_reducible exact spec_AreSigns.mono _ _ _)
   | (with_reducible exact spec_FirstBreak.mono _ _ _)
   | (with_reducible exact LeO.refl _)
   | (with_reducible exact LeO.none _)
   | (with_reducible refine LeO.ite ?_ ?_)
   | (with_reducible refine LeO.bind ?_ (fun _ => ?_))
   | exact spec_AreSigns.mono _ _ _
   | exact spec_FirstBreak.mono _ _ _
   | exact LeO.none _
   | refine LeO.ite ?_ ?_
   | refine LeO.bind ?_ (fun _ => ?_)
set_option maxHeartbeats 8000000 in
set_option maxRecDepth 100000 in
theorem spec_IsMatroid.calls (k : Nat) (a0_0 : Int) (a0_1 : ByteArray) (r : Bool) (w : World) (h : spec_IsMatroid.f k a0_0 a0_1 = some r) :
  Calls Try.prog 108 #[.agg #[.int .i64 a0_0, .string a0_1]] w fun e w' => e = .returned (.bool r) ∧ Below w.heap.size w w' := by
 have hu27 := Try.underlying27
 have HB := Aside0.mk (Below.refl w.heap.size w)
 have H : ((spec_AreSigns.f k a0_0 a0_1).bind fun t141 => (if t141 = true then ((spec_FirstBreak.f k a0_0 a0_1).bind fun t142 => (some ((t142.length : Int) == 0))) else (some false))) = some r := h
 clear h
 replace H := Option.bind_eq_some_iff.mp H
 obtain ⟨t141, A20, H⟩ := H
 (try dsimp only at H)
 have A2 := Aside0.mk A20
 clear A20
 by_cases c3 : t141 = true
 ·subst c3
  have H1 : ((spec_FirstBreak.f k a0_0 a0_1).bind fun t142 => (some ((t142.length : Int) == 0))) = some r := by rw [if_pos rfl] at H; exact H
  clear H
  have H := H1
  clear H1
  replace H := Option.bind_eq_some_iff.mp H
  obtain ⟨t142, A40, H⟩ := H
  (try dsimp only at H)
  have A4 := Aside0.mk A40
  clear A40
  obtain rfl := Option.some.inj H
  go_enter Try.func108, Try.ntmps108
  go_wp2_with (first | ((with_reducible refine gate_dst (N := 1) rfl ?_); (try (refine gate_guard (by rfl) ?_; dsimp only)); refine bx 1 #[.int .i64 a0_0, .string a0_1] 27 ?_; intro gb140 hg w5 hbox hb; have BK140 := Aside0.mk hbox; have GE140 := gs HB hg; have GW140 := GE140; replace HB := bs HB hb; clear hb hbox hg; have hcz6_0 := bc BK140 0; have hcz6_1 := bc BK140 1; have hfz6_0 := bf BK140 0; have hfz6_1 := bf BK140 1) | ((with_reducible refine gate_callee (f := 131) rfl ?_); refine gL (some 4) rfl rfl Try.func131 (by kernel_rfl) rfl #[.agg #[.int .i64 a0_0, .string a0_1]] rfl ?_; (with_reducible refine (spec_AreSigns.calls k a0_0 a0_1 true _ A2.out).mono ?_); rintro e w7 ⟨rfl, hb⟩; refine ⟨_, rfl, ?_⟩; have n0_ := Aside0.mk (blk_below (g := gb140) (o := .cells #[.int .i64 a0_0, .string a0_1] 27 (0, 0)) (bk BK140) hb); have n1_ := bsg HB GE140 hb; clear BK140; clear HB; have BK140 := n0_; have HB := n1_; clear n0_ n1_; (try clear hb); (try clear hb2); (try clear hk); (try clear hi); have hcz8_0 := bc BK140 0; have hcz8_1 := bc BK140 1; have hfz8_0 := bf BK140 0; have hfz8_1 := bf BK140 1) | (go_at_call 132; (with_reducible refine (spec_FirstBreak.calls k a0_0 a0_1 t142 _ A4.out).mono ?_); rintro e w9 ⟨v143, rfl, ho0, hb⟩; have n0_ := Aside0.mk (Kd.R_lower ho0 (below_size (bg HB GE140))); have n1_ := Aside0.mk (blk_below (g := gb140) (o := .cells #[.int .i64 a0_0, .string a0_1] 27 (0, 0)) (bk BK140) hb); have n2_ := bsg HB GE140 hb; clear BK140; clear HB; have HO144 := n0_; have BK140 := n1_; have HB := n2_; clear n0_ n1_ n2_; (try clear hb); (try clear hb2); (try clear hk); (try clear hi); (try clear ho0); obtain ⟨Ao10, co10, eo10⟩ := Kd.R_slice HO144.out; subst eo10))
  go_ret
  exact ⟨by first | rfl | (simp [errW_none, errW_some] <;> rfl) | (simp [*, errW_none, errW_some] <;> rfl), (bg HB GE140)⟩
 ·replace c3 := Bool.eq_false_iff.mpr c3
  subst c3
  have H1 : (some false) = some r := by rw [if_neg (show ¬ (false = true) by decide)] at H; exact H
  clear H
  have H := H1
  clear H1
  obtain rfl := Option.some.inj H
  go_enter Try.func108, Try.ntmps108
  go_wp2_with (first | ((with_reducible refine gate_dst (N := 1) rfl ?_); (try (refine gate_guard (by rfl) ?_; dsimp only)); refine bx 1 #[.int .i64 a0_0, .string a0_1] 27 ?_; intro gb140 hg w11 hbox hb; have BK140 := Aside0.mk hbox; have GE140 := gs HB hg; have GW140 := GE140; replace HB := bs HB hb; clear hb hbox hg; have hcz12_0 := bc BK140 0; have hcz12_1 := bc BK140 1; have hfz12_0 := bf BK140 0; have hfz12_1 := bf BK140 1) | ((with_reducible refine gate_callee (f := 131) rfl ?_); refine gL (some 4) rfl rfl Try.func131 (by kernel_rfl) rfl #[.agg #[.int .i64 a0_0, .string a0_1]] rfl ?_; (with_reducible refine (spec_AreSigns.calls k a0_0 a0_1 false _ A2.out).mono ?_); rintro e w13 ⟨rfl, hb⟩; refine ⟨_, rfl, ?_⟩; have n0_ := Aside0.mk (blk_below (g := gb140) (o := .cells #[.int .i64 a0_0, .string a0_1] 27 (0, 0)) (bk BK140) hb); have n1_ := bsg HB GE140 hb; clear BK140; clear HB; have BK140 := n0_; have HB := n1_; clear n0_ n1_; (try clear hb); (try clear hb2); (try clear hk); (try clear hi)))
  go_ret
  exact ⟨by first | rfl | (simp [errW_none, errW_some] <;> rfl) | (simp [*, errW_none, errW_some] <;> rfl), (bg HB GE140)⟩

/-! ### spec_l3Byte: function 164 -/
def spec_l3Byte.f (a0 : Int) : Option (ByteArray) := if a0 > 0 then (some (⟨#[43]⟩ : ByteArray)) else (some (⟨#[45]⟩ : ByteArray))
set_option maxHeartbeats 8000000 in
set_option maxRecDepth 100000 in
theorem spec_l3Byte.calls (a0 : Int) (r : ByteArray) (w : World) (h : spec_l3Byte.f a0 = some r) :
  Calls Try.prog 164 #[.int .i64 a0] w fun e w' => e = .returned (.string r) ∧ Drawn0 w w' := by
 have H : (if a0 > 0 then (some (⟨#[43]⟩ : ByteArray)) else (some (⟨#[45]⟩ : ByteArray))) = some r := h
 clear h
 by_cases c2 : a0 > 0
 ·rw [if_pos c2] at H
  have c2b0 : decide (0 < a0) = true := decide_eq_true c2
  clear c2
  obtain rfl := Option.some.inj H
  go_enter Try.func164, Try.ntmps164
  go_wp2
  go_ret
  exact ⟨by first | rfl | (simp; done) | (simp [*]; done), by repeat (first | exact Drawn0.refl _ | apply Drawn0.step)⟩
 ·rw [if_neg c2] at H
  have c2b0 : decide (0 < a0) = false := decide_eq_false c2
  clear c2
  obtain rfl := Option.some.inj H
  go_enter Try.func164, Try.ntmps164
  go_wp2
  go_ret
  exact ⟨by first | rfl | (simp; done) | (simp [*]; done), by repeat (first | exact Drawn0.refl _ | apply Drawn0.step)⟩

/-! ### spec_l4Circuit: function 133 -/
def spec_l4Circuit.f (k : Nat) (a0_0 : Int) (a0_1 : ByteArray) (a1 : Int) (a2 : Int) (a3 : Int) (a4 : Int) : Option (ByteArray) := (spec_l3At.f k a0_0 a0_1 a2 a3 a4).bind fun t146 => ((spec_l3At.f k a0_0 a0_1 a1 a3 a4).bind fun t147 => ((spec_l3Byte.f (wrap64 ((wrap64 (-t146)) * t147))).bind fun t148 => (if 1 + t148.size ≤ 9223372036854775807 then ((spec_l3At.f k a0_0 a0_1 a1 a2 a4).bind fun t149 => ((spec_l3Byte.f (wrap64 (t146 * t149))).bind fun t150 => (if ((⟨#[43]⟩ : ByteArray) ++ t148).size + t150.size ≤ 9223372036854775807 then ((spec_l3At.f k a0_0 a0_1 a1 a2 a3).bind fun t151 => ((spec_l3Byte.f (wrap64 ((wrap64 (-t146)) * t151))).bind fun t152 => (if (((⟨#[43]⟩ : ByteArray) ++ t148) ++ t150).size + t152.size ≤ 9223372036854775807 then (some ((((⟨#[43]⟩ : ByteArray) ++ t148) ++ t150) ++ t152)) else (none)))) else (none)))) else (none))))
theorem spec_l4Circuit.mono : ∀ a0 a1 a2 a3 a4 a5 k, LeO (spec_l4Circuit.f k a0 a1 a2 a3 a4 a5) (spec_l4Circuit.f (k + 1) a0 a1 a2 a3 a4 a5) := by
 intro a0 a1 a2 a3 a4 a5 k
 unfold spec_l4Circuit.f
 repeat' first
   | (with_reducible exact spec_l3At.mono _ _ _ _ _ _)
   | (with_reducible exact LeO.refl _)
   | (with_reducible exact LeO.none _)
   | (with_reducible refine LeO.ite ?_ ?_)
   | (with_reducible refine LeO.bind ?_ (fun _ => ?_))
   | exact spec_l3At.mono _ _ _ _ _ _
   | exact LeO.none _
   | refine LeO.ite ?_ ?_
   | refine LeO.bind ?_ (fun _ => ?_)
def spec_l4Circuit.T2 : Bool × List (List Nat × List Nat) := (true, [([], []), ([0], [0]), ([], []), ([], []), ([], []), ([], []), ([2, 3, 4, 5], [2, 3, 4, 5]), ([1, 6], [1, 6]), ([7, 6], [7]), ([8], [8]), ([], []), ([], []), ([], []), ([], []), ([], []), ([11, 12, 13, 14, 8], [11, 12, 13, 14]), ([10, 15], [10, 15]), ([16, 15], [16]), ([9, 17], [9, 17]), ([18, 17, 0, 1, 2, 3, 4, 5, 6, 7, 8, 9, 10, 11, 12, 13, 14, 15, 16, 17, 18], [18])])
def spec_l4Circuit.B2 : List Nat := [0, 1, 0, 0, 0, 0, 60, 127, 255, 511, 0, 0, 0, 0, 0, 31231, 65023, 130559, 262143, 524287]
theorem spec_l4Circuit.tab2 : rtab .any (opsOf Try.f133 2) = spec_l4Circuit.T2 := by kernel_rfl
theorem spec_l4Circuit.bits2 : waitsOk spec_l4Circuit.T2.2 spec_l4Circuit.B2 = true := by kernel_rfl
set_option maxHeartbeats 8000000 in
set_option maxRecDepth 100000 in
theorem spec_l4Circuit.calls (k : Nat) (a0_0 : Int) (a0_1 : ByteArray) (a1 : Int) (a2 : Int) (a3 : Int) (a4 : Int) (r : ByteArray) (w : World) (h : spec_l4Circuit.f k a0_0 a0_1 a1 a2 a3 a4 = some r) :
  Calls Try.prog 133 #[.agg #[.int .i64 a0_0, .string a0_1], .int .i64 a1, .int .i64 a2, .int .i64 a3, .int .i64 a4] w fun e w' => e = .returned (.string r) ∧ Below w.heap.size w w' := by
 have hu27 := Try.underlying27
 have HB := Aside0.mk (Below.refl w.heap.size w)
 have H : ((spec_l3At.f k a0_0 a0_1 a2 a3 a4).bind fun t146 => ((spec_l3At.f k a0_0 a0_1 a1 a3 a4).bind fun t147 => ((spec_l3Byte.f (wrap64 ((wrap64 (-t146)) * t147))).bind fun t148 => (if 1 + t148.size ≤ 9223372036854775807 then ((spec_l3At.f k a0_0 a0_1 a1 a2 a4).bind fun t149 => ((spec_l3Byte.f (wrap64 (t146 * t149))).bind fun t150 => (if ((⟨#[43]⟩ : ByteArray) ++ t148).size + t150.size ≤ 9223372036854775807 then ((spec_l3At.f k a0_0 a0_1 a1 a2 a3).bind fun t151 => ((spec_l3Byte.f (wrap64 ((wrap64 (-t146)) * t151))).bind fun t152 => (if (((⟨#[43]⟩ : ByteArray) ++ t148) ++ t150).size + t152.size ≤ 9223372036854775807 then (some ((((⟨#[43]⟩ : ByteArray) ++ t148) ++ t150) ++ t152)) else (none)))) else (none)))) else (none))))) = some r := h
 clear h
 replace H := Option.bind_eq_some_iff.mp H
 obtain ⟨t146, A60, H⟩ := H
 (try dsimp only at H)
 have A6 := Aside0.mk A60
 clear A60
 replace H := Option.bind_eq_some_iff.mp H
 obtain ⟨t147, A70, H⟩ := H
 (try dsimp only at H)
 have A7 := Aside0.mk A70
 clear A70
 replace H := Option.bind_eq_some_iff.mp H
 obtain ⟨t148, A80, H⟩ := H
 (try dsimp only at H)
 have A8 := Aside0.mk A80
 clear A80
 by_cases c9 : 1 + t148.size ≤ 9223372036854775807
 ·rw [if_pos c9] at H
  have c9b0 := eq_true c9
  have c9b1 : decide (1 + t148.size ≤ 9223372036854775807) = true := decide_eq_true c9
  try have c9b2 : (9223372036854775807 < 1 + t148.size) = False := eq_false (Nat.not_lt.2 c9)
  replace H := Option.bind_eq_some_iff.mp H
  obtain ⟨t149, A100, H⟩ := H
  (try dsimp only at H)
  have A10 := Aside0.mk A100
  clear A100
  replace H := Option.bind_eq_some_iff.mp H
  obtain ⟨t150, A110, H⟩ := H
  (try dsimp only at H)
  have A11 := Aside0.mk A110
  clear A110
  by_cases c12 : ((⟨#[43]⟩ : ByteArray) ++ t148).size + t150.size ≤ 9223372036854775807
  ·rw [if_pos c12] at H
   have c12b0 := eq_true c12
   have c12b1 : decide (((⟨#[43]⟩ : ByteArray) ++ t148).size + t150.size ≤ 9223372036854775807) = true := decide_eq_true c12
   try have c12b2 : (9223372036854775807 < ((⟨#[43]⟩ : ByteArray) ++ t148).size + t150.size) = False := eq_false (Nat.not_lt.2 c12)
   have c12f : (9223372036854775807 < 1 + t148.size + t150.size) = False := eq_false (by have h_ := c12; simp only [ByteArray.size_append] at h_; have e0_ : (⟨#[43]⟩ : ByteArray).size = 1 := rfl; omega)
   replace H := Option.bind_eq_some_iff.mp H
   obtain ⟨t151, A130, H⟩ := H
   (try dsimp only at H)
   have A13 := Aside0.mk A130
   clear A130
   replace H := Option.bind_eq_some_iff.mp H
   obtain ⟨t152, A140, H⟩ := H
   (try dsimp only at H)
   have A14 := Aside0.mk A140
   clear A140
   by_cases c15 : (((⟨#[43]⟩ : ByteArray) ++ t148) ++ t150).size + t152.size ≤ 9223372036854775807
   ·rw [if_pos c15] at H
    have c15b0 := eq_true c15
    have c15b1 : decide ((((⟨#[43]⟩ : ByteArray) ++ t148) ++ t150).size + t152.size ≤ 9223372036854775807) = true := decide_eq_true c15
    try have c15b2 : (9223372036854775807 < (((⟨#[43]⟩ : ByteArray) ++ t148) ++ t150).size + t152.size) = False := eq_false (Nat.not_lt.2 c15)
    have c15f : (9223372036854775807 < 1 + t148.size + t150.size + t152.size) = False := eq_false (by have h_ := c15; simp only [ByteArray.size_append] at h_; have e0_ : (⟨#[43]⟩ : ByteArray).size = 1 := rfl; omega)
    obtain rfl := Option.some.inj H
    go_enter Try.func133, Try.ntmps133
    try go_wp2_with (first | ((with_reducible refine gate_dst (N := 5) rfl ?_); refine bx 5 #[.int .i64 a0_0, .string a0_1] 27 ?_; intro gb145 hg w16 hbox hb; have BK145 := Aside0.mk hbox; have GE145 := gs HB hg; have GW145 := GE145; replace HB := bs HB hb; clear hb hbox hg; have hcz17_0 := bc BK145 0; have hcz17_1 := bc BK145 1; have hfz17_0 := bf BK145 0; have hfz17_1 := bf BK145 1) | ((with_reducible refine gate_callee (f := 163) rfl ?_); refine gL (some 17) rfl rfl Try.func163 (by kernel_rfl) rfl #[.agg #[.int .i64 a0_0, .string a0_1], .int .i64 a2, .int .i64 a3, .int .i64 a4] rfl ?_; (with_reducible refine (spec_l3At.calls k a0_0 a0_1 a2 a3 a4 t146 _ A6.out).mono ?_); rintro e w18 ⟨rfl, hb⟩; refine ⟨_, rfl, ?_⟩; have n0_ := Aside0.mk (blk_below (g := gb145) (o := .cells #[.int .i64 a0_0, .string a0_1] 27 (0, 0)) (bk BK145) hb); have n1_ := bsg HB GE145 hb; clear BK145; clear HB; have BK145 := n0_; have HB := n1_; clear n0_ n1_; (try clear hb); (try clear hb2); (try clear hk); (try clear hi)))
    have n0_ := Aside0.mk (blk_drew BK145.out)
    have n1_ := Aside0.mk (below_drew1 HB.out)
    clear BK145
    clear HB
    have BK145 := n0_
    have HB := n1_
    clear n0_ n1_
    refine start_ (n := 20) (S := fun w' => w'.cell? ⟨gb145, 0, none⟩ = some (.int .i64 a0_0) ∧ w'.cell? ⟨gb145, 1, none⟩ = some (.string a0_1)) (ds := []) #[false, false, false, false, false, false, false, false, false, false, false, false, false, false, false, false, false, false, false, false] (by kernel_rfl) rfl rfl ⟨(blk_cell BK145.out 0).trans rfl, (blk_cell BK145.out 1).trans rfl⟩ (fun hHeld => ?_); refine with_tabW spec_l4Circuit.tab2 spec_l4Circuit.bits2 (fun HT_ HW_ => ?_)
    generalize w18.drew = w19 at BK145 HB hHeld ⊢
    refine pu 0 18 HT_ ?_
    refine pu 1 19 HT_ ?_
    refine pu 3 21 HT_ ?_
    refine pu 4 22 HT_ ?_
    refine pu 5 23 HT_ ?_
    refine pu 10 28 HT_ ?_
    refine pu 12 30 HT_ ?_
    refine pu 13 31 HT_ ?_
    refine pu 14 32 HT_ ?_
    refine take_ (i := 2) (N := some 20) (v := ?_) (a' := ?_) #[true, true, true, true, true, true, false, false, false, false, true, false, true, true, true, false, false, false, false, false] rfl rfl (take_ofW HT_.out HW_.out (by kernel_rfl)) (fun _ _ _ h => h) (Or.inl ⟨by rfl, ?_⟩) hHeld ?_ ?_
    rotate_left
    ·rintro w' ⟨s0, s1⟩
     go_simp
     with_reducible rfl
    rotate_left
    ·simp only [Act.put, List.setIfInBounds_toArray, List.set_cons_zero, List.set_cons_succ, i64_w, i32_w]
     rfl
    refine take_ (i := 11) (N := some 29) (v := ?_) (a' := ?_) #[true, true, true, true, true, true, false, false, false, false, true, true, true, true, true, false, false, false, false, false] rfl rfl (take_ofW HT_.out HW_.out (by kernel_rfl)) (fun _ _ _ h => h) (Or.inl ⟨by rfl, ?_⟩) hHeld ?_ ?_
    rotate_left
    ·rintro w' ⟨s0, s1⟩
     go_simp
     with_reducible rfl
    rotate_left
    ·simp only [Act.put, List.setIfInBounds_toArray, List.set_cons_zero, List.set_cons_succ, i64_w, i32_w]
     rfl
    refine one_ (i := 6) (N := some 24) #[true, true, true, true, true, true, true, false, false, false, true, true, true, true, true, false, false, false, false, false] rfl rfl (one_of HT_.out (by kernel_rfl)) (by decide) (fun K hK => ?_)
    refine goes_ Try.func163 (by kernel_rfl) rfl #[.agg #[.int .i64 a0_0, .string a0_1], .int .i64 a1, .int .i64 a3, .int .i64 a4] (by rfl) rfl rfl (by (try simp only [List.map_toArray, List.map_cons, List.map_nil]); first | done | rfl | (simp only [List.length_drop, List.length_take]; rfl)) ?_
    with_reducible refine (spec_l3At.calls k a0_0 a0_1 a1 a3 a4 t147 _ A7.out).mono ?_
    rintro e w20 ⟨rfl, hb⟩
    refine ⟨_, rfl, ?_⟩
    have n0_ := Aside0.mk (blk_below (g := gb145) (o := .cells #[.int .i64 a0_0, .string a0_1] 27 (0, 0)) (bk BK145) hb)
    have n1_ := bsg HB GE145 hb
    clear BK145
    clear HB
    have BK145 := n0_
    have HB := n1_
    clear n0_ n1_
    (try clear hb)
    (try clear hb2)
    (try clear hk)
    (try clear hi)
    refine hK.out _ _ ⟨(blk_cell BK145.out 0).trans rfl, (blk_cell BK145.out 1).trans rfl⟩ (fun hHeld => ?_)
    clear hK K
    refine norm_ (a' := ?_) ?_ ?_
    rotate_left
    ·show Act.put _ (some 24) _ = _
     simp only [Act.put, List.setIfInBounds_toArray, List.set_cons_zero, List.set_cons_succ, i64_w, i32_w]
     rfl
    refine pu 7 25 HT_ ?_
    refine one_ (i := 8) (N := some 26) #[true, true, true, true, true, true, true, true, true, false, true, true, true, true, true, false, false, false, false, false] rfl rfl (one_of HT_.out (by kernel_rfl)) (by decide) (fun K hK => ?_)
    refine goes_ Try.func164 (by kernel_rfl) rfl #[.int .i64 (wrap64 ((wrap64 (-t146)) * t147))] (by rfl) rfl rfl (by (try simp only [List.map_toArray, List.map_cons, List.map_nil]); first | done | rfl | (simp only [List.length_drop, List.length_take]; rfl)) ?_
    with_reducible refine (spec_l3Byte.calls (wrap64 ((wrap64 (-t146)) * t147)) t148 _ A8.out).mono ?_
    rintro e w' ⟨rfl, ⟨nd, rfl⟩⟩
    refine ⟨_, rfl, ?_⟩
    refine hK.out _ _ ⟨(blk_cell BK145.out 0).trans rfl, (blk_cell BK145.out 1).trans rfl⟩ (fun hHeld => ?_)
    clear hK K
    refine norm_ (a' := ?_) ?_ ?_
    rotate_left
    ·show Act.put _ (some 26) _ = _
     simp only [Act.put, List.setIfInBounds_toArray, List.set_cons_zero, List.set_cons_succ, i64_w, i32_w]
     rfl
    refine pu 9 27 HT_ ?_
    refine one_ (i := 15) (N := some 33) #[true, true, true, true, true, true, true, true, true, true, true, true, true, true, true, true, false, false, false, false] rfl rfl (one_of HT_.out (by kernel_rfl)) (by decide) (fun K hK => ?_)
    refine goes_ Try.func163 (by kernel_rfl) rfl #[.agg #[.int .i64 a0_0, .string a0_1], .int .i64 a1, .int .i64 a2, .int .i64 a4] (by rfl) rfl rfl (by (try simp only [List.map_toArray, List.map_cons, List.map_nil]); first | done | rfl | (simp only [List.length_drop, List.length_take]; rfl)) ?_
    with_reducible refine (spec_l3At.calls k a0_0 a0_1 a1 a2 a4 t149 _ A10.out).mono ?_
    rintro e w21 ⟨rfl, hb⟩
    refine ⟨_, rfl, ?_⟩
    have n0_ := Aside0.mk (blk_below (g := gb145) (o := .cells #[.int .i64 a0_0, .string a0_1] 27 (0, 0)) (bk BK145) hb)
    have n1_ := bsg HB GE145 hb
    clear BK145
    clear HB
    have BK145 := n0_
    have HB := n1_
    clear n0_ n1_
    (try clear hb)
    (try clear hb2)
    (try clear hk)
    (try clear hi)
    refine hK.out _ _ ⟨(blk_cell BK145.out 0).trans rfl, (blk_cell BK145.out 1).trans rfl⟩ (fun hHeld => ?_)
    clear hK K
    refine norm_ (a' := ?_) ?_ ?_
    rotate_left
    ·show Act.put _ (some 33) _ = _
     simp only [Act.put, List.setIfInBounds_toArray, List.set_cons_zero, List.set_cons_succ, i64_w, i32_w]
     rfl
    refine pu 16 34 HT_ ?_
    refine one_ (i := 17) (N := some 35) #[true, true, true, true, true, true, true, true, true, true, true, true, true, true, true, true, true, true, false, false] rfl rfl (one_of HT_.out (by kernel_rfl)) (by decide) (fun K hK => ?_)
    refine goes_ Try.func164 (by kernel_rfl) rfl #[.int .i64 (wrap64 (t146 * t149))] (by rfl) rfl rfl (by (try simp only [List.map_toArray, List.map_cons, List.map_nil]); first | done | rfl | (simp only [List.length_drop, List.length_take]; rfl)) ?_
    with_reducible refine (spec_l3Byte.calls (wrap64 (t146 * t149)) t150 _ A11.out).mono ?_
    rintro e w' ⟨rfl, ⟨nd, rfl⟩⟩
    refine ⟨_, rfl, ?_⟩
    refine hK.out _ _ ⟨(blk_cell BK145.out 0).trans rfl, (blk_cell BK145.out 1).trans rfl⟩ (fun hHeld => ?_)
    clear hK K
    refine norm_ (a' := ?_) ?_ ?_
    rotate_left
    ·show Act.put _ (some 35) _ = _
     simp only [Act.put, List.setIfInBounds_toArray, List.set_cons_zero, List.set_cons_succ, i64_w, i32_w]
     rfl
    refine pu 18 36 HT_ ?_
    refine pu 19 12 HT_ ?_
    refine done_ (done_of HT_.out (by kernel_rfl)) ?_
    have hcz22_0 := bc BK145 0
    have hcz22_1 := bc BK145 1
    have hfz22_0 := bf BK145 0
    have hfz22_1 := bf BK145 1
    try go_wp2_with (first | ((with_reducible refine gate_callee (f := 163) rfl ?_); refine gL (some 44) rfl rfl Try.func163 (by kernel_rfl) rfl #[.agg #[.int .i64 a0_0, .string a0_1], .int .i64 a1, .int .i64 a2, .int .i64 a3] rfl ?_; (with_reducible refine (spec_l3At.calls k a0_0 a0_1 a1 a2 a3 t151 _ A13.out).mono ?_); rintro e w23 ⟨rfl, hb⟩; refine ⟨_, rfl, ?_⟩; have n0_ := Aside0.mk (blk_below (g := gb145) (o := .cells #[.int .i64 a0_0, .string a0_1] 27 (0, 0)) (bk BK145) hb); have n1_ := bsg HB GE145 hb; clear BK145; clear HB; have BK145 := n0_; have HB := n1_; clear n0_ n1_; (try clear hb); (try clear hb2); (try clear hk); (try clear hi)) | ((with_reducible refine gate_callee (f := 164) rfl ?_); refine gL (some 46) rfl rfl Try.func164 (by kernel_rfl) rfl #[.int .i64 (wrap64 ((wrap64 (-t146)) * t151))] rfl ?_; (with_reducible refine (spec_l3Byte.calls (wrap64 ((wrap64 (-t146)) * t151)) t152 _ A14.out).mono ?_); rintro e w' ⟨rfl, ⟨nd, rfl⟩⟩; refine ⟨_, rfl, ?_⟩))
    go_ret
    exact ⟨by first | rfl | (simp [errW_none, errW_some] <;> rfl) | (simp [*, errW_none, errW_some] <;> rfl), (bg HB GE145)⟩
   ·rw [if_neg c15] at H
    exact absurd H (by simp)
  ·rw [if_neg c12] at H
   exact absurd H (by simp)
 ·rw [if_neg c9] at H
  exact absurd H (by simp)

/-! ### spec_l4Acyclic: function 109 -/
mutual
def spec_l4Acyclic.l0 : Nat → Int → Int → ByteArray → Option (Bool)
 | 0, _, _, _ => none
 | k + 1, x3, x154000, x154001 => if x3 < x154000 then (spec_l4Acyclic.l1 k x3 (wrap64 (x3 + 1)) x154000 x154001) else (some true)
def spec_l4Acyclic.l1 : Nat → Int → Int → Int → ByteArray → Option (Bool)
 | 0, _, _, _, _ => none
 | k + 1, x3, x4, x154000, x154001 => if x4 < x154000 then (spec_l4Acyclic.l2 k x3 x4 (wrap64 (x4 + 1)) x154000 x154001) else (spec_l4Acyclic.l0 k (wrap64 (x3 + 1)) x154000 x154001)
def spec_l4Acyclic.l2 : Nat → Int → Int → Int → Int → ByteArray → Option (Bool)
 | 0, _, _, _, _, _ => none
 | k + 1, x3, x4, x5, x154000, x154001 => if x5 < x154000 then (spec_l4Acyclic.l3 k x3 x4 x5 (wrap64 (x5 + 1)) x154000 x154001) else (spec_l4Acyclic.l1 k x3 (wrap64 (x4 + 1)) x154000 x154001)
def spec_l4Acyclic.l3 : Nat → Int → Int → Int → Int → Int → ByteArray → Option (Bool)
 | 0, _, _, _, _, _, _ => none
 | k + 1, x3, x4, x5, x6, x154000, x154001 => if x6 < x154000 then ((spec_l4Circuit.f k x154000 x154001 x3 x4 x5 x6).bind fun t154 => (if t154.toList = ([43, 43, 43, 43] : List UInt8) then (some false) else (spec_l4Acyclic.l3 k x3 x4 x5 (wrap64 (x6 + 1)) x154000 x154001))) else (spec_l4Acyclic.l2 k x3 x4 (wrap64 (x5 + 1)) x154000 x154001)
end
def spec_l4Acyclic.f (k : Nat) (a0_0 : Int) (a0_1 : ByteArray) : Option (Bool) := spec_l4Acyclic.l0 k 0 a0_0 a0_1
theorem spec_l4Acyclic.mono_l : ∀ k, (∀ y0 y1 y2, LeO (spec_l4Acyclic.l0 k y0 y1 y2) (spec_l4Acyclic.l0 (k + 1) y0 y1 y2)) ∧ (∀ y0 y1 y2 y3, LeO (spec_l4Acyclic.l1 k y0 y1 y2 y3) (spec_l4Acyclic.l1 (k + 1) y0 y1 y2 y3)) ∧ (∀ y0 y1 y2 y3 y4, LeO (spec_l4Acyclic.l2 k y0 y1 y2 y3 y4) (spec_l4Acyclic.l2 (k + 1) y0 y1 y2 y3 y4)) ∧ (∀ y0 y1 y2 y3 y4 y5, LeO (spec_l4Acyclic.l3 k y0 y1 y2 y3 y4 y5) (spec_l4Acyclic.l3 (k + 1) y0 y1 y2 y3 y4 y5))
 | 0 => ⟨fun _ _ _ r h => by simp [spec_l4Acyclic.l0] at h, fun _ _ _ _ r h => by simp [spec_l4Acyclic.l1] at h, fun _ _ _ _ _ r h => by simp [spec_l4Acyclic.l2] at h, fun _ _ _ _ _ _ r h => by simp [spec_l4Acyclic.l3] at h⟩
 | k + 1 => by
  obtain ⟨ih0, ih1, ih2, ih3⟩ := spec_l4Acyclic.mono_l k
  refine ⟨?_, ?_, ?_, ?_⟩
  ·intro y0 y1 y2
   unfold spec_l4Acyclic.l0
   repeat' first
   | (with_reducible exact ih0 _ _ _)
   | (with_reducible exact ih1 _ _ _ _)
   | (with_reducible exact ih2 _ _ _ _ _)
   | (with_reducible exact ih3 _ _ _ _ _ _)
   | (with_reducible exact spec_l4Circuit.mono _ _ _ _ _ _ _)
   | (with_reducible exact LeO.refl _)
   | (with_reducible exact LeO.none _)
   | (with_reducible refine LeO.ite ?_ ?_)
   | (with_reducible refine LeO.bind ?_ (fun _ => ?_))
   | exact ih0 _ _ _
   | exact ih1 _ _ _ _
   | exact ih2 _ _ _ _ _
   | exact ih3 _ _ _ _ _ _
   | exact spec_l4Circuit.mono _ _ _ _ _ _ _
   | exact LeO.none _
   | refine LeO.ite ?_ ?_
   | refine LeO.bind ?_ (fun _ => ?_)
  ·intro y0 y1 y2 y3
   unfold spec_l4Acyclic.l1
   repeat' first
   | (with_reducible exact ih0 _ _ _)
   | (with_reducible exact ih1 _ _ _ _)
   | (with_reducible exact ih2 _ _ _ _ _)
   | (with_reducible exact ih3 _ _ _ _ _ _)
   | (with_reducible exact spec_l4Circuit.mono _ _ _ _ _ _ _)
   | (with_reducible exact LeO.refl _)
   | (with_reducible exact LeO.none _)
   | (with_reducible refine LeO.ite ?_ ?_)
   | (with_reducible refine LeO.bind ?_ (fun _ => ?_))
   | exact ih0 _ _ _
   | exact ih1 _ _ _ _
   | exact ih2 _ _ _ _ _
   | exact ih3 _ _ _ _ _ _
   | exact spec_l4Circuit.mono _ _ _ _ _ _ _
   | exact LeO.none _
   | refine LeO.ite ?_ ?_
   | refine LeO.bind ?_ (fun _ => ?_)
  ·intro y0 y1 y2 y3 y4
   unfold spec_l4Acyclic.l2
   repeat' first
   | (with_reducible exact ih0 _ _ _)
   | (with_reducible exact ih1 _ _ _ _)
   | (with_reducible exact ih2 _ _ _ _ _)
   | (with_reducible exact ih3 _ _ _ _ _ _)
   | (with_reducible exact spec_l4Circuit.mono _ _ _ _ _ _ _)
   | (with_reducible exact LeO.refl _)
   | (with_reducible exact LeO.none _)
   | (with_reducible refine LeO.ite ?_ ?_)
   | (with_reducible refine LeO.bind ?_ (fun _ => ?_))
   | exact ih0 _ _ _
   | exact ih1 _ _ _ _
   | exact ih2 _ _ _ _ _
   | exact ih3 _ _ _ _ _ _
   | exact spec_l4Circuit.mono _ _ _ _ _ _ _
   | exact LeO.none _
   | refine LeO.ite ?_ ?_
   | refine LeO.bind ?_ (fun _ => ?_)
  ·intro y0 y1 y2 y3 y4 y5
   unfold spec_l4Acyclic.l3
   repeat' first
   | (with_reducible exact ih0 _ _ _)
   | (with_reducible exact ih1 _ _ _ _)
   | (with_reducible exact ih2 _ _ _ _ _)
   | (with_reducible exact ih3 _ _ _ _ _ _)
   | (with_reducible exact spec_l4Circuit.mono _ _ _ _ _ _ _)
   | (with_reducible exact LeO.refl _)
   | (with_reducible exact LeO.none _)
   | (with_reducible refine LeO.ite ?_ ?_)
   | (with_reducible refine LeO.bind ?_ (fun _ => ?_))
   | exact ih0 _ _ _
   | exact ih1 _ _ _ _
   | exact ih2 _ _ _ _ _
   | exact ih3 _ _ _ _ _ _
   | exact spec_l4Circuit.mono _ _ _ _ _ _ _
   | exact LeO.none _
   | refine LeO.ite ?_ ?_
   | refine LeO.bind ?_ (fun _ => ?_)
theorem spec_l4Acyclic.mono : ∀ a0 a1 k, LeO (spec_l4Acyclic.f k a0 a1) (spec_l4Acyclic.f (k + 1) a0 a1) := by
 intro a0 a1 k
 obtain ⟨ih0, ih1, ih2, ih3⟩ := spec_l4Acyclic.mono_l k
 unfold spec_l4Acyclic.f
 repeat' first
   | (with_reducible exact ih0 _ _ _)
   | (with_reducible exact ih1 _ _ _ _)
   | (with_reducible exact ih2 _ _ _ _ _)
   | (with_reducible exact ih3 _ _ _ _ _ _)
   | (with_reducible exact spec_l4Circuit.mono _ _ _ _ _ _ _)
   | (with_reducible exact LeO.refl _)
   | (with_reducible exact LeO.none _)
   | (with_reducible refine LeO.ite ?_ ?_)
   | (with_reducible refine LeO.bind ?_ (fun _ => ?_))
   | exact ih0 _ _ _
   | exact ih1 _ _ _ _
   | exact ih2 _ _ _ _ _
   | exact ih3 _ _ _ _ _ _
   | exact spec_l4Circuit.mono _ _ _ _ _ _ _
   | exact LeO.none _
   | refine LeO.ite ?_ ?_
   | refine LeO.bind ?_ (fun _ => ?_)
set_option maxHeartbeats 8000000 in
set_option maxRecDepth 100000 in
theorem spec_l4Acyclic.calls (k : Nat) (a0_0 : Int) (a0_1 : ByteArray) (r : Bool) (w : World) (h : spec_l4Acyclic.f k a0_0 a0_1 = some r) :
  Calls Try.prog 109 #[.agg #[.int .i64 a0_0, .string a0_1]] w fun e w' => e = .returned (.bool r) ∧ Below w.heap.size w w' := by
 have hu27 := Try.underlying27
 have HB := Aside0.mk (Below.refl w.heap.size w)
 have H : (spec_l4Acyclic.l0 k 0 a0_0 a0_1) = some r := h
 clear h
 have H' := Aside0.mk H
 clear H
 go_enter Try.func109, Try.ntmps109
 go_wp2_with (first | ((with_reducible refine gate_dst (N := 1) rfl ?_); refine bx 1 #[.int .i64 a0_0, .string a0_1] 27 ?_; intro gb153 hg w2 hbox hb; have BK153 := Aside0.mk hbox; have GE153 := gs HB hg; have GW153 := GE153; replace HB := bs HB hb; clear hb hbox hg))
 go_loopg [3] k (fun kq v3 w' => ∃ (x3_1 : Int), v3 = .int .i64 x3_1 ∧ Aside0 (spec_l4Acyclic.l0 kq x3_1 a0_0 a0_1 = some r) ∧ Aside0 (kq ≤ k) ∧ Aside0 (w'.heap[gb153]? = some (.cells #[.int .i64 a0_0, .string a0_1] 27 (0, 0))) ∧ Aside0 (Below w.heap.size w w'))
 case atStart => exact ⟨(0), (by first | rfl | (simp; done) | (simp [*]; done)), H', ⟨Nat.le_refl _⟩, ⟨by (with_reducible repeat (first | refine blk_drewN ?_ _ | refine blk_drew ?_ | refine blk_alloc ?_ _)); exact BK153.out⟩, ⟨(bg HB GE153)⟩⟩
 case round =>
  clear H'
  try clear c1
  try clear p2
  obtain ⟨x3_1, rfl, HA, HK1, BK153, HB⟩ := hrel
  cases gk with
  | zero => exact absurd HA.out (by simp [spec_l4Acyclic.l0])
  | succ k1 =>
   have H := HA.out
   clear HA
   simp only [spec_l4Acyclic.l0] at H
   by_cases c3 : x3_1 < a0_0
   ·rw [if_pos c3] at H
    have c3b0 : decide (x3_1 < a0_0) = true := decide_eq_true c3
    clear c3
    have H' := Aside0.mk H
    clear H
    have hcz4_0 := bc BK153 0
    have hcz4_1 := bc BK153 1
    have hfz4_0 := bf BK153 0
    have hfz4_1 := bf BK153 1
    go_wp2
    go_loopg [4] k1 (fun kq v4 w' => ∃ (x4_2 : Int), v4 = .int .i64 x4_2 ∧ Aside0 (spec_l4Acyclic.l1 kq x3_1 x4_2 a0_0 a0_1 = some r) ∧ Aside0 (kq ≤ k1) ∧ Aside0 (w'.heap[gb153]? = some (.cells #[.int .i64 a0_0, .string a0_1] 27 (0, 0))) ∧ Aside0 (Below w.heap.size w w'))
    case atStart => exact ⟨(wrap64 (x3_1 + 1)), (by first | rfl | (simp; done) | (simp [*]; done)), H', ⟨Nat.le_refl _⟩, ⟨by (with_reducible repeat (first | refine blk_drewN ?_ _ | refine blk_drew ?_ | refine blk_alloc ?_ _)); exact BK153.out⟩, ⟨(bg HB GE153)⟩⟩
    case round =>
     clear H'
     try clear c1
     try clear p2
     try clear c3
     try clear c3b0
     try clear hcz4_0
     try clear hcz4_1
     try clear hfz4_0
     try clear hfz4_1
     try clear p2
     obtain ⟨x4_2, rfl, HA, HK2, BK153, HB⟩ := hrel
     cases gk with
     | zero => exact absurd HA.out (by simp [spec_l4Acyclic.l1])
     | succ k2 =>
      have H := HA.out
      clear HA
      simp only [spec_l4Acyclic.l1] at H
      by_cases c5 : x4_2 < a0_0
      ·rw [if_pos c5] at H
       have c5b0 : decide (x4_2 < a0_0) = true := decide_eq_true c5
       clear c5
       have H' := Aside0.mk H
       clear H
       have hcz6_0 := bc BK153 0
       have hcz6_1 := bc BK153 1
       have hfz6_0 := bf BK153 0
       have hfz6_1 := bf BK153 1
       go_wp2
       go_loopg [5] k2 (fun kq v5 w' => ∃ (x5_3 : Int), v5 = .int .i64 x5_3 ∧ Aside0 (spec_l4Acyclic.l2 kq x3_1 x4_2 x5_3 a0_0 a0_1 = some r) ∧ Aside0 (kq ≤ k2) ∧ Aside0 (w'.heap[gb153]? = some (.cells #[.int .i64 a0_0, .string a0_1] 27 (0, 0))) ∧ Aside0 (Below w.heap.size w w'))
       case atStart => exact ⟨(wrap64 (x4_2 + 1)), (by first | rfl | (simp; done) | (simp [*]; done)), H', ⟨Nat.le_refl _⟩, ⟨by (with_reducible repeat (first | refine blk_drewN ?_ _ | refine blk_drew ?_ | refine blk_alloc ?_ _)); exact BK153.out⟩, ⟨(bg HB GE153)⟩⟩
       case round =>
        clear H'
        try clear c1
        try clear p2
        try clear c3
        try clear c3b0
        try clear c5
        try clear c5b0
        try clear p6
        try clear hcz4_0
        try clear hcz4_1
        try clear hcz6_0
        try clear hcz6_1
        try clear hfz4_0
        try clear hfz4_1
        try clear hfz6_0
        try clear hfz6_1
        try clear p2
        obtain ⟨x5_3, rfl, HA, HK3, BK153, HB⟩ := hrel
        cases gk with
        | zero => exact absurd HA.out (by simp [spec_l4Acyclic.l2])
        | succ k3 =>
         have H := HA.out
         clear HA
         simp only [spec_l4Acyclic.l2] at H
         by_cases c7 : x5_3 < a0_0
         ·rw [if_pos c7] at H
          have c7b0 : decide (x5_3 < a0_0) = true := decide_eq_true c7
          clear c7
          have H' := Aside0.mk H
          clear H
          have hcz8_0 := bc BK153 0
          have hcz8_1 := bc BK153 1
          have hfz8_0 := bf BK153 0
          have hfz8_1 := bf BK153 1
          go_wp2
          go_loopg [6] k3 (fun kq v6 w' => ∃ (x6_4 : Int), v6 = .int .i64 x6_4 ∧ Aside0 (spec_l4Acyclic.l3 kq x3_1 x4_2 x5_3 x6_4 a0_0 a0_1 = some r) ∧ Aside0 (kq ≤ k3) ∧ Aside0 (w'.heap[gb153]? = some (.cells #[.int .i64 a0_0, .string a0_1] 27 (0, 0))) ∧ Aside0 (Below w.heap.size w w'))
          case atStart => exact ⟨(wrap64 (x5_3 + 1)), (by first | rfl | (simp; done) | (simp [*]; done)), H', ⟨Nat.le_refl _⟩, ⟨by (with_reducible repeat (first | refine blk_drewN ?_ _ | refine blk_drew ?_ | refine blk_alloc ?_ _)); exact BK153.out⟩, ⟨(bg HB GE153)⟩⟩
          case round =>
           clear H'
           try clear c1
           try clear p2
           try clear c3
           try clear c3b0
           try clear c5
           try clear c5b0
           try clear p6
           try clear c7
           try clear c7b0
           try clear hcz4_0
           try clear hcz4_1
           try clear hcz6_0
           try clear hcz6_1
           try clear hcz8_0
           try clear hcz8_1
           try clear hfz4_0
           try clear hfz4_1
           try clear hfz6_0
           try clear hfz6_1
           try clear hfz8_0
           try clear hfz8_1
           try clear p2
           try clear p6
           obtain ⟨x6_4, rfl, HA, HK4, BK153, HB⟩ := hrel
           cases gk with
           | zero => exact absurd HA.out (by simp [spec_l4Acyclic.l3])
           | succ k4 =>
            have H := HA.out
            clear HA
            simp only [spec_l4Acyclic.l3] at H
            by_cases c9 : x6_4 < a0_0
            ·rw [if_pos c9] at H
             have c9b0 : decide (x6_4 < a0_0) = true := decide_eq_true c9
             clear c9
             replace H := Option.bind_eq_some_iff.mp H
             obtain ⟨t154, A100, H⟩ := H
             (try dsimp only at H)
             have A10 := Aside0.mk A100
             clear A100
             by_cases c11 : t154.toList = ([43, 43, 43, 43] : List UInt8)
             ·rw [if_pos c11] at H
              have c11b0 : (t154.toList == ([43, 43, 43, 43] : List UInt8)) = true := beq_iff_eq.mpr c11
              have c11b1 : (t154.toList != ([43, 43, 43, 43] : List UInt8)) = false := bne_eq_false_iff_eq.mpr c11
              clear c11
              obtain rfl := Option.some.inj H
              have hcz12_0 := bc BK153 0
              have hcz12_1 := bc BK153 1
              have hfz12_0 := bf BK153 0
              have hfz12_1 := bf BK153 1
              go_wp2_with (first | ((with_reducible refine gate_callee (f := 133) rfl ?_); refine gL (some 42) rfl rfl Try.func133 (by kernel_rfl) rfl #[.agg #[.int .i64 a0_0, .string a0_1], .int .i64 x3_1, .int .i64 x4_2, .int .i64 x5_3, .int .i64 x6_4] rfl ?_; (with_reducible refine (spec_l4Circuit.calls k4 a0_0 a0_1 x3_1 x4_2 x5_3 x6_4 t154 _ A10.out).mono ?_); rintro e w13 ⟨rfl, hb⟩; refine ⟨_, rfl, ?_⟩; have n0_ := Aside0.mk (blk_below (g := gb153) (o := .cells #[.int .i64 a0_0, .string a0_1] 27 (0, 0)) (bk BK153) hb); have n1_ := bsg HB GE153 hb; clear BK153; clear HB; have BK153 := n0_; have HB := n1_; clear n0_ n1_; (try clear hb); (try clear hb2); (try clear hk); (try clear hi)))
              go_ret
              exact ⟨by first | rfl | (simp [errW_none, errW_some] <;> rfl) | (simp [*, errW_none, errW_some] <;> rfl), (bg HB GE153)⟩
             ·rw [if_neg c11] at H
              have c11b0 : (t154.toList == ([43, 43, 43, 43] : List UInt8)) = false := beq_eq_false_iff_ne.mpr c11
              have c11b1 : (t154.toList != ([43, 43, 43, 43] : List UInt8)) = true := bne_iff_ne.mpr c11
              have H' := Aside0.mk H
              clear H
              have hcz14_0 := bc BK153 0
              have hcz14_1 := bc BK153 1
              have hfz14_0 := bf BK153 0
              have hfz14_1 := bf BK153 1
              go_wp2_with (first | ((with_reducible refine gate_callee (f := 133) rfl ?_); refine gL (some 42) rfl rfl Try.func133 (by kernel_rfl) rfl #[.agg #[.int .i64 a0_0, .string a0_1], .int .i64 x3_1, .int .i64 x4_2, .int .i64 x5_3, .int .i64 x6_4] rfl ?_; (with_reducible refine (spec_l4Circuit.calls k4 a0_0 a0_1 x3_1 x4_2 x5_3 x6_4 t154 _ A10.out).mono ?_); rintro e w15 ⟨rfl, hb⟩; refine ⟨_, rfl, ?_⟩; have n0_ := Aside0.mk (blk_below (g := gb153) (o := .cells #[.int .i64 a0_0, .string a0_1] 27 (0, 0)) (bk BK153) hb); have n1_ := bsg HB GE153 hb; clear BK153; clear HB; have BK153 := n0_; have HB := n1_; clear n0_ n1_; (try clear hb); (try clear hb2); (try clear hk); (try clear hi)))
              go_roundg k4
              case measure => have := HK1.out; have := HK2.out; have := HK3.out; have := HK4.out; omega
              case rel => exact ⟨(wrap64 (x6_4 + 1)), (by first | rfl | (simp; done) | (simp [*]; done)), H', ⟨by have := HK1.out; have := HK2.out; have := HK3.out; have := HK4.out; omega⟩, ⟨by (with_reducible repeat (first | refine blk_drewN ?_ _ | refine blk_drew ?_ | refine blk_alloc ?_ _)); exact BK153.out⟩, ⟨(bg HB GE153)⟩⟩
            ·rw [if_neg c9] at H
             have c9b0 : decide (x6_4 < a0_0) = false := decide_eq_false c9
             clear c9
             have H' := Aside0.mk H
             clear H
             have hcz16_0 := bc BK153 0
             have hcz16_1 := bc BK153 1
             have hfz16_0 := bf BK153 0
             have hfz16_1 := bf BK153 1
             go_wp2
             go_roundg k4
             case measure => have := HK1.out; have := HK2.out; have := HK3.out; have := HK4.out; omega
             case rel => exact ⟨(wrap64 (x5_3 + 1)), (by first | rfl | (simp; done) | (simp [*]; done)), H', ⟨by have := HK1.out; have := HK2.out; have := HK3.out; have := HK4.out; omega⟩, ⟨by (with_reducible repeat (first | refine blk_drewN ?_ _ | refine blk_drew ?_ | refine blk_alloc ?_ _)); exact BK153.out⟩, ⟨(bg HB GE153)⟩⟩
         ·rw [if_neg c7] at H
          have c7b0 : decide (x5_3 < a0_0) = false := decide_eq_false c7
          clear c7
          have H' := Aside0.mk H
          clear H
          have hcz17_0 := bc BK153 0
          have hcz17_1 := bc BK153 1
          have hfz17_0 := bf BK153 0
          have hfz17_1 := bf BK153 1
          go_wp2
          go_roundg k3
          case measure => have := HK1.out; have := HK2.out; have := HK3.out; omega
          case rel => exact ⟨(wrap64 (x4_2 + 1)), (by first | rfl | (simp; done) | (simp [*]; done)), H', ⟨by have := HK1.out; have := HK2.out; have := HK3.out; omega⟩, ⟨by (with_reducible repeat (first | refine blk_drewN ?_ _ | refine blk_drew ?_ | refine blk_alloc ?_ _)); exact BK153.out⟩, ⟨(bg HB GE153)⟩⟩
      ·rw [if_neg c5] at H
       have c5b0 : decide (x4_2 < a0_0) = false := decide_eq_false c5
       clear c5
       have H' := Aside0.mk H
       clear H
       have hcz18_0 := bc BK153 0
       have hcz18_1 := bc BK153 1
       have hfz18_0 := bf BK153 0
       have hfz18_1 := bf BK153 1
       go_wp2
       go_roundg k2
       case measure => have := HK1.out; have := HK2.out; omega
       case rel => exact ⟨(wrap64 (x3_1 + 1)), (by first | rfl | (simp; done) | (simp [*]; done)), H', ⟨by have := HK1.out; have := HK2.out; omega⟩, ⟨by (with_reducible repeat (first | refine blk_drewN ?_ _ | refine blk_drew ?_ | refine blk_alloc ?_ _)); exact BK153.out⟩, ⟨(bg HB GE153)⟩⟩
   ·rw [if_neg c3] at H
    have c3b0 : decide (x3_1 < a0_0) = false := decide_eq_false c3
    clear c3
    obtain rfl := Option.some.inj H
    have hcz19_0 := bc BK153 0
    have hcz19_1 := bc BK153 1
    have hfz19_0 := bf BK153 0
    have hfz19_1 := bf BK153 1
    go_wp2
    go_ret
    exact ⟨by first | rfl | (simp [errW_none, errW_some] <;> rfl) | (simp [*, errW_none, errW_some] <;> rfl), (bg HB GE153)⟩

/-! ### spec_IsAcyclic: function 64 -/
def spec_IsAcyclic.f (k : Nat) (a0_0 : Int) (a0_1 : ByteArray) : Option (Bool) := (spec_IsMatroid.f k a0_0 a0_1).bind fun t156 => (if t156 = true then ((spec_l4Acyclic.f k a0_0 a0_1).bind fun t157 => (some t157)) else (some false))
theorem spec_IsAcyclic.mono : ∀ a0 a1 k, LeO (spec_IsAcyclic.f k a0 a1) (spec_IsAcyclic.f (k + 1) a0 a1) := by
 intro a0 a1 k
 unfold spec_IsAcyclic.f
 repeat' first
   | (with_reducible exact spec_IsMatroid.mono _ _ _)
   | (with_reducible exact spec_l4Acyclic.mono _ _ _)
   | (with_reducible exact LeO.refl _)
   | (with_reducible exact LeO.none _)
   | (with_reducible refine LeO.ite ?_ ?_)
   | (with_reducible refine LeO.bind ?_ (fun _ => ?_))
   | exact spec_IsMatroid.mono _ _ _
   | exact spec_l4Acyclic.mono _ _ _
   | exact LeO.none _
   | refine LeO.ite ?_ ?_
   | refine LeO.bind ?_ (fun _ => ?_)
set_option maxHeartbeats 8000000 in
set_option maxRecDepth 100000 in
theorem spec_IsAcyclic.calls (k : Nat) (a0_0 : Int) (a0_1 : ByteArray) (r : Bool) (w : World) (h : spec_IsAcyclic.f k a0_0 a0_1 = some r) :
  Calls Try.prog 64 #[.agg #[.int .i64 a0_0, .string a0_1]] w fun e w' => e = .returned (.bool r) ∧ Below w.heap.size w w' := by
 have hu27 := Try.underlying27
 have HB := Aside0.mk (Below.refl w.heap.size w)
 have H : ((spec_IsMatroid.f k a0_0 a0_1).bind fun t156 => (if t156 = true then ((spec_l4Acyclic.f k a0_0 a0_1).bind fun t157 => (some t157)) else (some false))) = some r := h
 clear h
 replace H := Option.bind_eq_some_iff.mp H
 obtain ⟨t156, A20, H⟩ := H
 (try dsimp only at H)
 have A2 := Aside0.mk A20
 clear A20
 by_cases c3 : t156 = true
 ·subst c3
  have H1 : ((spec_l4Acyclic.f k a0_0 a0_1).bind fun t157 => (some t157)) = some r := by rw [if_pos rfl] at H; exact H
  clear H
  have H := H1
  clear H1
  replace H := Option.bind_eq_some_iff.mp H
  obtain ⟨t157, A40, H⟩ := H
  (try dsimp only at H)
  have A4 := Aside0.mk A40
  clear A40
  obtain rfl := Option.some.inj H
  go_enter Try.func64, Try.ntmps64
  go_wp2_with (first | ((with_reducible refine gate_dst (N := 1) rfl ?_); refine bx 1 #[.int .i64 a0_0, .string a0_1] 27 ?_; intro gb155 hg w5 hbox hb; have BK155 := Aside0.mk hbox; have GE155 := gs HB hg; have GW155 := GE155; replace HB := bs HB hb; clear hb hbox hg; have hcz6_0 := bc BK155 0; have hcz6_1 := bc BK155 1; have hfz6_0 := bf BK155 0; have hfz6_1 := bf BK155 1) | ((with_reducible refine gate_callee (f := 108) rfl ?_); refine gL (some 4) rfl rfl Try.func108 (by kernel_rfl) rfl #[.agg #[.int .i64 a0_0, .string a0_1]] rfl ?_; (with_reducible refine (spec_IsMatroid.calls k a0_0 a0_1 true _ A2.out).mono ?_); rintro e w7 ⟨rfl, hb⟩; refine ⟨_, rfl, ?_⟩; have n0_ := Aside0.mk (blk_below (g := gb155) (o := .cells #[.int .i64 a0_0, .string a0_1] 27 (0, 0)) (bk BK155) hb); have n1_ := bsg HB GE155 hb; clear BK155; clear HB; have BK155 := n0_; have HB := n1_; clear n0_ n1_; (try clear hb); (try clear hb2); (try clear hk); (try clear hi); have hcz8_0 := bc BK155 0; have hcz8_1 := bc BK155 1; have hfz8_0 := bf BK155 0; have hfz8_1 := bf BK155 1) | (go_at_call 109; (with_reducible refine (spec_l4Acyclic.calls k a0_0 a0_1 t157 _ A4.out).mono ?_); rintro e w9 ⟨rfl, hb⟩; have n0_ := Aside0.mk (blk_below (g := gb155) (o := .cells #[.int .i64 a0_0, .string a0_1] 27 (0, 0)) (bk BK155) hb); have n1_ := bsg HB GE155 hb; clear BK155; clear HB; have BK155 := n0_; have HB := n1_; clear n0_ n1_; (try clear hb); (try clear hb2); (try clear hk); (try clear hi)))
  go_ret
  exact ⟨by first | rfl | (simp [errW_none, errW_some] <;> rfl) | (simp [*, errW_none, errW_some] <;> rfl), (bg HB GE155)⟩
 ·replace c3 := Bool.eq_false_iff.mpr c3
  subst c3
  have H1 : (some false) = some r := by rw [if_neg (show ¬ (false = true) by decide)] at H; exact H
  clear H
  have H := H1
  clear H1
  obtain rfl := Option.some.inj H
  go_enter Try.func64, Try.ntmps64
  go_wp2_with (first | ((with_reducible refine gate_dst (N := 1) rfl ?_); refine bx 1 #[.int .i64 a0_0, .string a0_1] 27 ?_; intro gb155 hg w10 hbox hb; have BK155 := Aside0.mk hbox; have GE155 := gs HB hg; have GW155 := GE155; replace HB := bs HB hb; clear hb hbox hg; have hcz11_0 := bc BK155 0; have hcz11_1 := bc BK155 1; have hfz11_0 := bf BK155 0; have hfz11_1 := bf BK155 1) | ((with_reducible refine gate_callee (f := 108) rfl ?_); refine gL (some 4) rfl rfl Try.func108 (by kernel_rfl) rfl #[.agg #[.int .i64 a0_0, .string a0_1]] rfl ?_; (with_reducible refine (spec_IsMatroid.calls k a0_0 a0_1 false _ A2.out).mono ?_); rintro e w12 ⟨rfl, hb⟩; refine ⟨_, rfl, ?_⟩; have n0_ := Aside0.mk (blk_below (g := gb155) (o := .cells #[.int .i64 a0_0, .string a0_1] 27 (0, 0)) (bk BK155) hb); have n1_ := bsg HB GE155 hb; clear BK155; clear HB; have BK155 := n0_; have HB := n1_; clear n0_ n1_; (try clear hb); (try clear hb2); (try clear hk); (try clear hi)))
  go_ret
  exact ⟨by first | rfl | (simp [errW_none, errW_some] <;> rfl) | (simp [*, errW_none, errW_some] <;> rfl), (bg HB GE155)⟩

/-! ### spec_l10Fits: function 33 -/
def spec_l10Fits.f (k : Nat) (a0_0 : Int) (a0_1 : ByteArray) : Option (Bool) := if a0_0 ≤ 6 then ((spec_IsAcyclic.f k a0_0 a0_1).bind fun t159 => (some t159)) else (some false)
theorem spec_l10Fits.mono : ∀ a0 a1 k, LeO (spec_l10Fits.f k a0 a1) (spec_l10Fits.f (k + 1) a0 a1) := by
 intro a0 a1 k
 unfold spec_l10Fits.f
 repeat' first
   | (with_reducible exact spec_IsAcyclic.mono _ _ _)
   | (with_reducible exact LeO.refl _)
   | (with_reducible exact LeO.none _)
   | (with_reducible refine LeO.ite ?_ ?_)
   | (with_reducible refine LeO.bind ?_ (fun _ => ?_))
   | exact spec_IsAcyclic.mono _ _ _
   | exact LeO.none _
   | refine LeO.ite ?_ ?_
   | refine LeO.bind ?_ (fun _ => ?_)
set_option maxHeartbeats 8000000 in
set_option maxRecDepth 100000 in
theorem spec_l10Fits.calls (k : Nat) (a0_0 : Int) (a0_1 : ByteArray) (r : Bool) (w : World) (h : spec_l10Fits.f k a0_0 a0_1 = some r) :
  Calls Try.prog 33 #[.agg #[.int .i64 a0_0, .string a0_1]] w fun e w' => e = .returned (.bool r) ∧ Below w.heap.size w w' := by
 have hu27 := Try.underlying27
 have HB := Aside0.mk (Below.refl w.heap.size w)
 have H : (if a0_0 ≤ 6 then ((spec_IsAcyclic.f k a0_0 a0_1).bind fun t159 => (some t159)) else (some false)) = some r := h
 clear h
 by_cases c2 : a0_0 ≤ 6
 ·rw [if_pos c2] at H
  have c2b0 : decide (a0_0 ≤ 6) = true := decide_eq_true c2
  clear c2
  replace H := Option.bind_eq_some_iff.mp H
  obtain ⟨t159, A30, H⟩ := H
  (try dsimp only at H)
  have A3 := Aside0.mk A30
  clear A30
  obtain rfl := Option.some.inj H
  go_enter Try.func33, Try.ntmps33
  go_wp2_with (first | ((with_reducible refine gate_dst (N := 1) rfl ?_); refine bx 1 #[.int .i64 a0_0, .string a0_1] 27 ?_; intro gb158 hg w4 hbox hb; have BK158 := Aside0.mk hbox; have GE158 := gs HB hg; have GW158 := GE158; replace HB := bs HB hb; clear hb hbox hg; have hcz5_0 := bc BK158 0; have hcz5_1 := bc BK158 1; have hfz5_0 := bf BK158 0; have hfz5_1 := bf BK158 1) | (go_at_call 64; (with_reducible refine (spec_IsAcyclic.calls k a0_0 a0_1 t159 _ A3.out).mono ?_); rintro e w6 ⟨rfl, hb⟩; have n0_ := Aside0.mk (blk_below (g := gb158) (o := .cells #[.int .i64 a0_0, .string a0_1] 27 (0, 0)) (bk BK158) hb); have n1_ := bsg HB GE158 hb; clear BK158; clear HB; have BK158 := n0_; have HB := n1_; clear n0_ n1_; (try clear hb); (try clear hb2); (try clear hk); (try clear hi)))
  go_ret
  exact ⟨by first | rfl | (simp [errW_none, errW_some] <;> rfl) | (simp [*, errW_none, errW_some] <;> rfl), (bg HB GE158)⟩
 ·rw [if_neg c2] at H
  have c2b0 : decide (a0_0 ≤ 6) = false := decide_eq_false c2
  clear c2
  obtain rfl := Option.some.inj H
  go_enter Try.func33, Try.ntmps33
  go_wp2_with (first | ((with_reducible refine gate_dst (N := 1) rfl ?_); refine bx 1 #[.int .i64 a0_0, .string a0_1] 27 ?_; intro gb158 hg w7 hbox hb; have BK158 := Aside0.mk hbox; have GE158 := gs HB hg; have GW158 := GE158; replace HB := bs HB hb; clear hb hbox hg; have hcz8_0 := bc BK158 0; have hcz8_1 := bc BK158 1; have hfz8_0 := bf BK158 0; have hfz8_1 := bf BK158 1))
  go_ret
  exact ⟨by first | rfl | (simp [errW_none, errW_some] <;> rfl) | (simp [*, errW_none, errW_some] <;> rfl), (bg HB GE158)⟩

/-! ### spec_l9Index: function 112 -/
mutual
def spec_l9Index.j0 : Nat → Int → Int → Int → Option (Int)
 | 0, _, _, _ => none
 | k + 1, x0, x1, x2 => spec_l9Index.l0 k x0 x1 x2 0 0
def spec_l9Index.l0 : Nat → Int → Int → Int → Int → Int → Option (Int)
 | 0, _, _, _, _, _ => none
 | k + 1, x0, x1, x2, x8, x9 => if x9 < x1 then (spec_l9Index.l0 k x0 x1 x2 (wrap64 ((wrap64 ((wrap64 (x8 + x0)) - 1)) - x9)) (wrap64 (x9 + 1))) else (some (wrap64 ((wrap64 ((wrap64 (x8 + x2)) - x1)) - 1)))
end
def spec_l9Index.f (k : Nat) (a0 : Int) (a1 : Int) (a2 : Int) : Option (Int) := if a1 > a2 then (spec_l9Index.j0 k a0 a2 a1) else (spec_l9Index.j0 k a0 a1 a2)
theorem spec_l9Index.mono_l : ∀ k, (∀ y0 y1 y2, LeO (spec_l9Index.j0 k y0 y1 y2) (spec_l9Index.j0 (k + 1) y0 y1 y2)) ∧ (∀ y0 y1 y2 y3 y4, LeO (spec_l9Index.l0 k y0 y1 y2 y3 y4) (spec_l9Index.l0 (k + 1) y0 y1 y2 y3 y4))
 | 0 => ⟨fun _ _ _ r h => by simp [spec_l9Index.j0] at h, fun _ _ _ _ _ r h => by simp [spec_l9Index.l0] at h⟩
 | k + 1 => by
  obtain ⟨ih0, ih1⟩ := spec_l9Index.mono_l k
  refine ⟨?_, ?_⟩
  ·intro y0 y1 y2
   unfold spec_l9Index.j0
   repeat' first
   | (with_reducible exact ih0 _ _ _)
   | (with_reducible exact ih1 _ _ _ _ _)
   | (with_reducible exact LeO.refl _)
   | (with_reducible exact LeO.none _)
   | (with_reducible refine LeO.ite ?_ ?_)
   | (with_reducible refine LeO.bind ?_ (fun _ => ?_))
   | exact ih0 _ _ _
   | exact ih1 _ _ _ _ _
   | exact LeO.none _
   | refine LeO.ite ?_ ?_
   | refine LeO.bind ?_ (fun _ => ?_)
  ·intro y0 y1 y2 y3 y4
   unfold spec_l9Index.l0
   repeat' first
   | (with_reducible exact ih0 _ _ _)
   | (with_reducible exact ih1 _ _ _ _ _)
   | (with_reducible exact LeO.refl _)
   | (with_reducible exact LeO.none _)
   | (with_reducible refine LeO.ite ?_ ?_)
   | (with_reducible refine LeO.bind ?_ (fun _ => ?_))
   | exact ih0 _ _ _
   | exact ih1 _ _ _ _ _
   | exact LeO.none _
   | refine LeO.ite ?_ ?_
   | refine LeO.bind ?_ (fun _ => ?_)
theorem spec_l9Index.mono : ∀ a0 a1 a2 k, LeO (spec_l9Index.f k a0 a1 a2) (spec_l9Index.f (k + 1) a0 a1 a2) := by
 intro a0 a1 a2 k
 obtain ⟨ih0, ih1⟩ := spec_l9Index.mono_l k
 unfold spec_l9Index.f
 repeat' first
   | (with_reducible exact ih0 _ _ _)
   | (with_reducible exact ih1 _ _ _ _ _)
   | (with_reducible exact LeO.refl _)
   | (with_reducible exact LeO.none _)
   | (with_reducible refine LeO.ite ?_ ?_)
   | (with_reducible refine LeO.bind ?_ (fun _ => ?_))
   | exact ih0 _ _ _
   | exact ih1 _ _ _ _ _
   | exact LeO.none _
   | refine LeO.ite ?_ ?_
   | refine LeO.bind ?_ (fun _ => ?_)
set_option maxHeartbeats 8000000 in
set_option maxRecDepth 100000 in
theorem spec_l9Index.calls (k : Nat) (a0 : Int) (a1 : Int) (a2 : Int) (r : Int) (w : World) (h : spec_l9Index.f k a0 a1 a2 = some r) :
  Calls Try.prog 112 #[.int .i64 a0, .int .i64 a1, .int .i64 a2] w fun e w' => e = .returned (.int .i64 r) ∧ Drawn0 w w' := by
 have H : (if a1 > a2 then (spec_l9Index.j0 k a0 a2 a1) else (spec_l9Index.j0 k a0 a1 a2)) = some r := h
 clear h
 have HC4 := Aside0.mk H
 clear H
 go_enter Try.func112, Try.ntmps112
 go_upto_if 12 with (fail)
 go_cut [1, 2] (fun v1 v2 wc => ∃ (kq : Nat) (x1_3 : Int) (x2_3 : Int), v1 = .int .i64 x1_3 ∧ v2 = .int .i64 x2_3 ∧ Aside0 (spec_l9Index.j0 kq a0 x1_3 x2_3 = some r) ∧ Aside0 (kq ≤ k) ∧ Drawn0 w wc)
 case first =>
  have H := HC4.out
  clear HC4
  by_cases c5 : a1 > a2
  ·rw [if_pos c5] at H
   have c5b0 : decide (a2 < a1) = true := decide_eq_true c5
   clear c5
   (first | rw [c5b0] | (simp only [i64_w, i32_w]; rw [c5b0]) | skip)
   have H' := Aside0.mk H
   clear H
   go_wp2
   go_meet
   case rel => exact ⟨_, (a2), (a1), (by first | rfl | (simp; done) | (simp [*]; done)), (by first | rfl | (simp; done) | (simp [*]; done)), H', ⟨by first | omega | exact Nat.le_refl _⟩, by repeat (first | exact Drawn0.refl _ | apply Drawn0.step)⟩
  ·rw [if_neg c5] at H
   have c5b0 : decide (a2 < a1) = false := decide_eq_false c5
   clear c5
   (first | rw [c5b0] | (simp only [i64_w, i32_w]; rw [c5b0]) | skip)
   have H' := Aside0.mk H
   clear H
   go_wp2
   go_meet
   case rel => exact ⟨_, (a1), (a2), (by first | rfl | (simp; done) | (simp [*]; done)), (by first | rfl | (simp; done) | (simp [*]; done)), H', ⟨by first | omega | exact Nat.le_refl _⟩, by repeat (first | exact Drawn0.refl _ | apply Drawn0.step)⟩
 case rest =>
  clear HC4
  try clear c1
  try clear p2
  try clear c5
  try clear c5b0
  obtain ⟨kq, x1_3, x2_3, rfl, rfl, HA, HJ3, ⟨mc3, rfl⟩⟩ := hcut
  cases kq with
  | zero => exact absurd HA.out (by simp [spec_l9Index.j0])
  | succ kj3 =>
   have H := HA.out
   clear HA
   simp only [spec_l9Index.j0] at H
   have H' := Aside0.mk H
   clear H
   go_wp2
   go_loopg [8, 9] kj3 (fun kq v8 v9 w' => ∃ (x8_2 : Int) (x9_2 : Int), v8 = .int .i64 x8_2 ∧ v9 = .int .i64 x9_2 ∧ Aside0 (spec_l9Index.l0 kq a0 x1_3 x2_3 x8_2 x9_2 = some r) ∧ Aside0 (kq ≤ kj3) ∧ Drawn0 w w')
   case atStart => exact ⟨(0), (0), (by first | rfl | (simp; done) | (simp [*]; done)), (by first | rfl | (simp; done) | (simp [*]; done)), H', ⟨Nat.le_refl _⟩, by repeat (first | exact Drawn0.refl _ | apply Drawn0.step)⟩
   case round =>
    clear H'
    try clear c1
    try clear p2
    try clear c3
    try clear c5
    try clear c5b0
    try clear p2
    obtain ⟨x8_2, x9_2, rfl, rfl, HA, HK2, ⟨m2, rfl⟩⟩ := hrel
    cases gk with
    | zero => exact absurd HA.out (by simp [spec_l9Index.l0])
    | succ k2 =>
     have H := HA.out
     clear HA
     simp only [spec_l9Index.l0] at H
     by_cases c6 : x9_2 < x1_3
     ·rw [if_pos c6] at H
      have c6b0 : decide (x9_2 < x1_3) = true := decide_eq_true c6
      clear c6
      have H' := Aside0.mk H
      clear H
      go_wp2
      go_roundg k2
      case measure => have := HJ3.out; have := HK2.out; omega
      case rel => exact ⟨(wrap64 ((wrap64 ((wrap64 (x8_2 + a0)) - 1)) - x9_2)), (wrap64 (x9_2 + 1)), (by first | rfl | (simp; done) | (simp [*]; done)), (by first | rfl | (simp; done) | (simp [*]; done)), H', ⟨by have := HJ3.out; have := HK2.out; omega⟩, by repeat (first | exact Drawn0.refl _ | apply Drawn0.step)⟩
     ·rw [if_neg c6] at H
      have c6b0 : decide (x9_2 < x1_3) = false := decide_eq_false c6
      clear c6
      obtain rfl := Option.some.inj H
      go_wp2
      go_ret
      exact ⟨by first | rfl | (simp; done) | (simp [*]; done), by repeat (first | exact Drawn0.refl _ | apply Drawn0.step)⟩

/-! ### spec_EdgeAt: function 81 -/
mutual
def spec_EdgeAt.l0 : Nat → Int → Int → Int → Option (Int × Int)
 | 0, _, _, _ => none
 | k + 1, x0, x1, x6 => if x6 < x0 then (spec_EdgeAt.l1 k x0 x1 x6 (wrap64 (x6 + 1))) else (some ((-1), (-1)))
def spec_EdgeAt.l1 : Nat → Int → Int → Int → Int → Option (Int × Int)
 | 0, _, _, _, _ => none
 | k + 1, x0, x1, x6, x7 => if x7 < x0 then ((spec_l9Index.f k x0 x6 x7).bind fun t161 => (if t161 = x1 then (some (x6, x7)) else (spec_EdgeAt.l1 k x0 x1 x6 (wrap64 (x7 + 1))))) else (spec_EdgeAt.l0 k x0 x1 (wrap64 (x6 + 1)))
end
def spec_EdgeAt.f (k : Nat) (a0 : Int) (a1 : Int) : Option (Int × Int) := (spec_l1In.f a0 3 7).bind fun t160 => (if t160 = true then (spec_EdgeAt.l0 k a0 a1 0) else (some ((-1), (-1))))
theorem spec_EdgeAt.mono_l : ∀ k, (∀ y0 y1 y2, LeO (spec_EdgeAt.l0 k y0 y1 y2) (spec_EdgeAt.l0 (k + 1) y0 y1 y2)) ∧ (∀ y0 y1 y2 y3, LeO (spec_EdgeAt.l1 k y0 y1 y2 y3) (spec_EdgeAt.l1 (k + 1) y0 y1 y2 y3))
 | 0 => ⟨fun _ _ _ r h => by simp [spec_EdgeAt.l0] at h, fun _ _ _ _ r h => by simp [spec_EdgeAt.l1] at h⟩
 | k + 1 => by
  obtain ⟨ih0, ih1⟩ := spec_EdgeAt.mono_l k
  refine ⟨?_, ?_⟩
  ·intro y0 y1 y2
   unfold spec_EdgeAt.l0
   repeat' first
   | (with_reducible exact ih0 _ _ _)
   | (with_reducible exact ih1 _ _ _ _)
   | (with_reducible exact spec_l9Index.mono _ _ _ _)
   | (with_reducible exact LeO.refl _)
   | (with_reducible exact LeO.none _)
   | (with_reducible refine LeO.ite ?_ ?_)
   | (with_reducible refine LeO.bind ?_ (fun _ => ?_))
   | exact ih0 _ _ _
   | exact ih1 _ _ _ _
   | exact spec_l9Index.mono _ _ _ _
   | exact LeO.none _
   | refine LeO.ite ?_ ?_
   | refine LeO.bind ?_ (fun _ => ?_)
  ·intro y0 y1 y2 y3
   unfold spec_EdgeAt.l1
   repeat' first
   | (with_reducible exact ih0 _ _ _)
   | (with_reducible exact ih1 _ _ _ _)
   | (with_reducible exact spec_l9Index.mono _ _ _ _)
   | (with_reducible exact LeO.refl _)
   | (with_reducible exact LeO.none _)
   | (with_reducible refine LeO.ite ?_ ?_)
   | (with_reducible refine LeO.bind ?_ (fun _ => ?_))
   | exact ih0 _ _ _
   | exact ih1 _ _ _ _
   | exact spec_l9Index.mono _ _ _ _
   | exact LeO.none _
   | refine LeO.ite ?_ ?_
   | refine LeO.bind ?_ (fun _ => ?_)
theorem spec_EdgeAt.mono : ∀ a0 a1 k, LeO (spec_EdgeAt.f k a0 a1) (spec_EdgeAt.f (k + 1) a0 a1) := by
 intro a0 a1 k
 obtain ⟨ih0, ih1⟩ := spec_EdgeAt.mono_l k
 unfold spec_EdgeAt.f
 repeat' first
   | (with_reducible exact ih0 _ _ _)
   | (with_reducible exact ih1 _ _ _ _)
   | (with_reducible exact spec_l9Index.mono _ _ _ _)
   | (with_reducible exact LeO.refl _)
   | (with_reducible exact LeO.none _)
   | (with_reducible refine LeO.ite ?_ ?_)
   | (with_reducible refine LeO.bind ?_ (fun _ => ?_))
   | exact ih0 _ _ _
   | exact ih1 _ _ _ _
   | exact spec_l9Index.mono _ _ _ _
   | exact LeO.none _
   | refine LeO.ite ?_ ?_
   | refine LeO.bind ?_ (fun _ => ?_)
set_option maxHeartbeats 8000000 in
set_option maxRecDepth 100000 in
theorem spec_EdgeAt.calls (k : Nat) (a0 : Int) (a1 : Int) (r1 : Int) (r2 : Int) (w : World) (h : spec_EdgeAt.f k a0 a1 = some (r1, r2)) :
  Calls Try.prog 81 #[.int .i64 a0, .int .i64 a1] w fun e w' => e = .returned (.tuple #[.int .i64 r1, .int .i64 r2]) ∧ Drawn0 w w' := by
 have H : ((spec_l1In.f a0 3 7).bind fun t160 => (if t160 = true then (spec_EdgeAt.l0 k a0 a1 0) else (some ((-1), (-1))))) = some (r1, r2) := h
 clear h
 replace H := Option.bind_eq_some_iff.mp H
 obtain ⟨t160, A30, H⟩ := H
 (try dsimp only at H)
 have A3 := Aside0.mk A30
 clear A30
 by_cases c4 : t160 = true
 ·subst c4
  have H1 : (spec_EdgeAt.l0 k a0 a1 0) = some (r1, r2) := by rw [if_pos rfl] at H; exact H
  clear H
  have H := H1
  clear H1
  have H' := Aside0.mk H
  clear H
  go_enter Try.func81, Try.ntmps81
  go_wp2_with (first | ((with_reducible refine gate_callee (f := 68) rfl ?_); refine gL (some 9) rfl rfl Try.func68 (by kernel_rfl) rfl #[.int .i64 a0, .int .i64 3, .int .i64 7] rfl ?_; (with_reducible refine (spec_l1In.calls a0 3 7 true _ A3.out).mono ?_); rintro e w' ⟨rfl, ⟨nd, rfl⟩⟩; refine ⟨_, rfl, ?_⟩))
  go_loopg [6] k (fun kq v6 w' => ∃ (x6_1 : Int), v6 = .int .i64 x6_1 ∧ Aside0 (spec_EdgeAt.l0 kq a0 a1 x6_1 = some (r1, r2)) ∧ Aside0 (kq ≤ k) ∧ Drawn0 w w')
  case atStart => exact ⟨(0), (by first | rfl | (simp; done) | (simp [*]; done)), H', ⟨Nat.le_refl _⟩, by repeat (first | exact Drawn0.refl _ | apply Drawn0.step)⟩
  case round =>
   clear H'
   try clear p2
   try clear c4
   obtain ⟨x6_1, rfl, HA, HK1, ⟨m1, rfl⟩⟩ := hrel
   cases gk with
   | zero => exact absurd HA.out (by simp [spec_EdgeAt.l0])
   | succ k1 =>
    have H := HA.out
    clear HA
    simp only [spec_EdgeAt.l0] at H
    by_cases c5 : x6_1 < a0
    ·rw [if_pos c5] at H
     have c5b0 : decide (x6_1 < a0) = true := decide_eq_true c5
     clear c5
     have H' := Aside0.mk H
     clear H
     go_wp2
     go_loopg [7] k1 (fun kq v7 w' => ∃ (x7_2 : Int), v7 = .int .i64 x7_2 ∧ Aside0 (spec_EdgeAt.l1 kq a0 a1 x6_1 x7_2 = some (r1, r2)) ∧ Aside0 (kq ≤ k1) ∧ Drawn0 w w')
     case atStart => exact ⟨(wrap64 (x6_1 + 1)), (by first | rfl | (simp; done) | (simp [*]; done)), H', ⟨Nat.le_refl _⟩, by repeat (first | exact Drawn0.refl _ | apply Drawn0.step)⟩
     case round =>
      clear H'
      try clear p2
      try clear c4
      try clear c5
      try clear c5b0
      try clear p2
      obtain ⟨x7_2, rfl, HA, HK2, ⟨m2, rfl⟩⟩ := hrel
      cases gk with
      | zero => exact absurd HA.out (by simp [spec_EdgeAt.l1])
      | succ k2 =>
       have H := HA.out
       clear HA
       simp only [spec_EdgeAt.l1] at H
       by_cases c6 : x7_2 < a0
       ·rw [if_pos c6] at H
        have c6b0 : decide (x7_2 < a0) = true := decide_eq_true c6
        clear c6
        replace H := Option.bind_eq_some_iff.mp H
        obtain ⟨t161, A70, H⟩ := H
        (try dsimp only at H)
        have A7 := Aside0.mk A70
        clear A70
        by_cases c8 : t161 = a1
        ·rw [if_pos c8] at H
         have c8b0 : (t161 == a1) = true := beq_iff_eq.mpr c8
         have c8b1 : (t161 != a1) = false := bne_eq_false_iff_eq.mpr c8
         clear c8
         simp only [Option.some.injEq, Prod.mk.injEq] at H
         obtain ⟨rfl, rfl⟩ := H
         go_wp2_with (first | ((with_reducible refine gate_callee (f := 112) rfl ?_); refine gL (some 26) rfl rfl Try.func112 (by kernel_rfl) rfl #[.int .i64 a0, .int .i64 x6_1, .int .i64 x7_2] rfl ?_; (with_reducible refine (spec_l9Index.calls k2 a0 x6_1 x7_2 t161 _ A7.out).mono ?_); rintro e w' ⟨rfl, ⟨nd, rfl⟩⟩; refine ⟨_, rfl, ?_⟩))
         go_ret2
         exact ⟨by first | rfl | (simp; done) | (simp [*]; done), by repeat (first | exact Drawn0.refl _ | apply Drawn0.step)⟩
        ·rw [if_neg c8] at H
         have c8b0 : (t161 == a1) = false := beq_eq_false_iff_ne.mpr c8
         have c8b1 : (t161 != a1) = true := bne_iff_ne.mpr c8
         have H' := Aside0.mk H
         clear H
         go_wp2_with (first | ((with_reducible refine gate_callee (f := 112) rfl ?_); refine gL (some 26) rfl rfl Try.func112 (by kernel_rfl) rfl #[.int .i64 a0, .int .i64 x6_1, .int .i64 x7_2] rfl ?_; (with_reducible refine (spec_l9Index.calls k2 a0 x6_1 x7_2 t161 _ A7.out).mono ?_); rintro e w' ⟨rfl, ⟨nd, rfl⟩⟩; refine ⟨_, rfl, ?_⟩))
         go_roundg k2
         case measure => have := HK1.out; have := HK2.out; omega
         case rel => exact ⟨(wrap64 (x7_2 + 1)), (by first | rfl | (simp; done) | (simp [*]; done)), H', ⟨by have := HK1.out; have := HK2.out; omega⟩, by repeat (first | exact Drawn0.refl _ | apply Drawn0.step)⟩
       ·rw [if_neg c6] at H
        have c6b0 : decide (x7_2 < a0) = false := decide_eq_false c6
        clear c6
        have H' := Aside0.mk H
        clear H
        go_wp2
        go_roundg k2
        case measure => have := HK1.out; have := HK2.out; omega
        case rel => exact ⟨(wrap64 (x6_1 + 1)), (by first | rfl | (simp; done) | (simp [*]; done)), H', ⟨by have := HK1.out; have := HK2.out; omega⟩, by repeat (first | exact Drawn0.refl _ | apply Drawn0.step)⟩
    ·rw [if_neg c5] at H
     have c5b0 : decide (x6_1 < a0) = false := decide_eq_false c5
     clear c5
     simp only [Option.some.injEq, Prod.mk.injEq] at H
     obtain ⟨rfl, rfl⟩ := H
     go_wp2
     go_ret2
     exact ⟨by first | rfl | (simp; done) | (simp [*]; done), by repeat (first | exact Drawn0.refl _ | apply Drawn0.step)⟩
 ·replace c4 := Bool.eq_false_iff.mpr c4
  subst c4
  have H1 : (some ((-1), (-1))) = some (r1, r2) := by rw [if_neg (show ¬ (false = true) by decide)] at H; exact H
  clear H
  have H := H1
  clear H1
  simp only [Option.some.injEq, Prod.mk.injEq] at H
  obtain ⟨rfl, rfl⟩ := H
  go_enter Try.func81, Try.ntmps81
  go_wp2_with (first | ((with_reducible refine gate_callee (f := 68) rfl ?_); refine gL (some 9) rfl rfl Try.func68 (by kernel_rfl) rfl #[.int .i64 a0, .int .i64 3, .int .i64 7] rfl ?_; (with_reducible refine (spec_l1In.calls a0 3 7 false _ A3.out).mono ?_); rintro e w' ⟨rfl, ⟨nd, rfl⟩⟩; refine ⟨_, rfl, ?_⟩))
  go_ret2
  exact ⟨by first | rfl | (simp; done) | (simp [*]; done), by repeat (first | exact Drawn0.refl _ | apply Drawn0.step)⟩

/-! ### spec_l5Split: function 113 -/
def spec_l5Split.l0 : Nat → List Int → ByteArray → Int → Int → Int → Option (Int × Int)
 | 0, _, _, _, _, _ => none
 | k + 1, x1, x6, x7, x8, x9 => if x9 < 4 then (if 0 ≤ x9 then (if x9 < (x6.size : Int) then (if (bt x6 x9) = 43 then (if x9 < (x1.length : Int) then (if 0 ≤ (IntKind.u64.wrap (rd x1 x9)) then (spec_l5Split.l0 k x1 x6 (wrap64 (x7 + (shl .i64 1 (IntKind.u64.wrap (rd x1 x9))))) x8 (wrap64 (x9 + 1))) else (none)) else (none)) else (if x9 < (x1.length : Int) then (if 0 ≤ (IntKind.u64.wrap (rd x1 x9)) then (spec_l5Split.l0 k x1 x6 x7 (wrap64 (x8 + (shl .i64 1 (IntKind.u64.wrap (rd x1 x9))))) (wrap64 (x9 + 1))) else (none)) else (none))) else (none)) else (none)) else (some (x7, x8))
def spec_l5Split.f (k : Nat) (a0_0 : Int) (a0_1 : ByteArray) (l1 : List Int) : Option (Int × Int) := if 0 < (l1.length : Int) then (if 1 < (l1.length : Int) then (if 2 < (l1.length : Int) then (if 3 < (l1.length : Int) then ((spec_l4Circuit.f k a0_0 a0_1 (rd l1 0) (rd l1 1) (rd l1 2) (rd l1 3)).bind fun t167 => (spec_l5Split.l0 k l1 t167 0 0 0)) else (none)) else (none)) else (none)) else (none)
theorem spec_l5Split.mono_l : ∀ k, (∀ y0 y1 y2 y3 y4, LeO (spec_l5Split.l0 k y0 y1 y2 y3 y4) (spec_l5Split.l0 (k + 1) y0 y1 y2 y3 y4))
 | 0 => fun _ _ _ _ _ r h => by simp [spec_l5Split.l0] at h
 | k + 1 => by
  have ih0 := spec_l5Split.mono_l k
  ·intro y0 y1 y2 y3 y4
   unfold spec_l5Split.l0
   repeat' first
   | (with_reducible exact ih0 _ _ _ _ _)
   | (with_reducible exact spec_l4Circuit.mono _ _ _ _ _ _ _)
   | (with_reducible exact LeO.refl _)
   | (with_reducible exact LeO.none _)
   | (with_reducible refine LeO.ite ?_ ?_)
   | (with_reducible refine LeO.bind ?_ (fun _ => ?_))
   | exact ih0 _ _ _ _ _
   | exact spec_l4Circuit.mono _ _ _ _ _ _ _
   | exact LeO.none _
   | refine LeO.ite ?_ ?_
   | refine LeO.bind ?_ (fun _ => ?_)
theorem spec_l5Split.mono : ∀ a0 a1 a2 k, LeO (spec_l5Split.f k a0 a1 a2) (spec_l5Split.f (k + 1) a0 a1 a2) := by
 intro a0 a1 a2 k
 have ih0 := spec_l5Split.mono_l k
 unfold spec_l5Split.f
 repeat' first
   | (with_reducible exact ih0 _ _ _ _ _)
   | (with_reducible exact spec_l4Circuit.mono _ _ _ _ _ _ _)
   | (with_reducible exact LeO.refl _)
   | (with_reducible exact LeO.none _)
   | (with_reducible refine LeO.ite ?_ ?_)
   | (with_reducible refine LeO.bind ?_ (fun _ => ?_))
   | exact ih0 _ _ _ _ _
   | exact spec_l4Circuit.mono _ _ _ _ _ _ _
   | exact LeO.none _
   | refine LeO.ite ?_ ?_
   | refine LeO.bind ?_ (fun _ => ?_)
def spec_l5Split.T1 : Bool × List (List Nat × List Nat) := (true, [([], []), ([], []), ([1], [1]), ([2], [2]), ([], []), ([4], [4]), ([5], [5]), ([], []), ([7], [7]), ([8], [8]), ([], []), ([10], [10]), ([11], [11]), ([0, 3, 6, 9, 12], [0, 3, 6, 9, 12]), ([13, 13, 0, 1, 2, 3, 4, 5, 6, 7, 8, 9, 10, 11, 12, 13], [13])])
def spec_l5Split.B1 : List Nat := [0, 0, 2, 6, 0, 16, 48, 0, 128, 384, 0, 1024, 3072, 8191, 16383]
theorem spec_l5Split.tab1 : rtab .any (opsOf Try.f113 1) = spec_l5Split.T1 := by kernel_rfl
theorem spec_l5Split.bits1 : waitsOk spec_l5Split.T1.2 spec_l5Split.B1 = true := by kernel_rfl
set_option maxHeartbeats 8000000 in
set_option maxRecDepth 100000 in
theorem spec_l5Split.calls (k : Nat) (a0_0 : Int) (a0_1 : ByteArray) (A1 : Option Addr) (c1 : Nat) (l1 : List Int) (r1 : Int) (r2 : Int) (w : World) (hr1 : Kd.C (Kd.int .i64) w A1 l1.length l1) (hc1 : l1.length ≤ c1) (h : spec_l5Split.f k a0_0 a0_1 l1 = some (r1, r2)) :
  Calls Try.prog 113 #[.agg #[.int .i64 a0_0, .string a0_1], .slice A1 l1.length c1] w fun e w' => e = .returned (.tuple #[.int .i64 r1, .int .i64 r2]) ∧ Below w.heap.size w w' := by
 have hu27 := Try.underlying27
 have HR1 := Aside0.mk hr1
 have HC1 := Aside0.mk hc1
 clear hr1 hc1
 have HB := Aside0.mk (Below.refl w.heap.size w)
 have H : (if 0 < (l1.length : Int) then (if 1 < (l1.length : Int) then (if 2 < (l1.length : Int) then (if 3 < (l1.length : Int) then ((spec_l4Circuit.f k a0_0 a0_1 (rd l1 0) (rd l1 1) (rd l1 2) (rd l1 3)).bind fun t167 => (spec_l5Split.l0 k l1 t167 0 0 0)) else (none)) else (none)) else (none)) else (none)) = some (r1, r2) := h
 clear h
 by_cases c3 : 0 < (l1.length : Int)
 ·rw [if_pos c3] at H
  have c3b0 : decide (0 < (l1.length : Int)) = true := decide_eq_true c3
  have c3b1 : decide (0 < l1.length) = true := decide_eq_true (by omega)
  clear c3
  by_cases c4 : 1 < (l1.length : Int)
  ·rw [if_pos c4] at H
   have c4b0 : decide (1 < (l1.length : Int)) = true := decide_eq_true c4
   have c4b1 : decide (1 < l1.length) = true := decide_eq_true (by omega)
   clear c4
   by_cases c5 : 2 < (l1.length : Int)
   ·rw [if_pos c5] at H
    have c5b0 : decide (2 < (l1.length : Int)) = true := decide_eq_true c5
    have c5b1 : decide (2 < l1.length) = true := decide_eq_true (by omega)
    clear c5
    by_cases c6 : 3 < (l1.length : Int)
    ·rw [if_pos c6] at H
     have c6b0 : decide (3 < (l1.length : Int)) = true := decide_eq_true c6
     have c6b1 : decide (3 < l1.length) = true := decide_eq_true (by omega)
     clear c6
     replace H := Option.bind_eq_some_iff.mp H
     obtain ⟨t167, A70, H⟩ := H
     (try dsimp only at H)
     have A7 := Aside0.mk A70
     clear A70
     have H' := Aside0.mk H
     clear H
     go_enter Try.func113, Try.ntmps113
     try go_wp2_with (first | ((with_reducible refine gate_dst (N := 2) rfl ?_); refine bx 2 #[.int .i64 a0_0, .string a0_1] 27 ?_; intro gb162 hg w8 hbox hb; have BK162 := Aside0.mk hbox; have GE162 := gs HB hg; have GW162 := GE162; replace HB := bs HB hb; clear hb hbox hg))
     have n0_ := Aside0.mk (blk_drew BK162.out)
     have n1_ := Aside0.mk (below_drew1 HB.out)
     clear BK162
     clear HB
     have BK162 := n0_
     have HB := n1_
     clear n0_ n1_
     have p163 : 0 ≤ (0 : Int) := (by omega)
     have q163 : 0 < (l1.length : Int) := of_decide_eq_true (by first | (with_reducible assumption) | assumption)
     obtain ⟨ad163, e163, hx163_0⟩ := Kd.at_int HR1.out 0 p163 q163
     have hw163_0 := hx163_0
     (try rw [show ((0 : Int)).toNat = 0 from rfl] at hw163_0)
     (try rw [show 0 * 1 = 0 from rfl] at hw163_0)
     (try rw [Addr.add_zero'] at hw163_0)
     cases e163
     have qi163 : (0 < l1.length) = True := eq_true (by omega)
     (try rw [show ((0 : Int)).toNat = 0 from rfl] at hx163_0)
     (try rw [Addr.add_zero'] at hx163_0)
     replace hx163_0 := (HB.out.cell (World.block_lt_of_cell? w _ hx163_0)).trans hx163_0
     replace p163 := eq_true p163
     replace q163 := eq_true q163
     have p164 : 0 ≤ (1 : Int) := (by omega)
     have q164 : 1 < (l1.length : Int) := of_decide_eq_true (by first | (with_reducible assumption) | assumption)
     obtain ⟨ad164, e164, hx164_0⟩ := Kd.at_int HR1.out 1 p164 q164
     have hw164_0 := hx164_0
     (try rw [show ((1 : Int)).toNat = 1 from rfl] at hw164_0)
     (try rw [show 1 * 1 = 1 from rfl] at hw164_0)
     (try simp only [Nat.reduceMul, Nat.reduceEqDiff, Go.Addr.add, ↓reduceIte] at hw164_0)
     obtain rfl : ad163 = ad164 := (by injection e164)
     (try simp only [show (1 : Int).toNat = 1 from rfl, Nat.reduceMul, Nat.reduceEqDiff, Go.Addr.add, ↓reduceIte] at hx164_0)
     have qi164 : (1 < l1.length) = True := eq_true (by omega)
     (try rw [show ((1 : Int)).toNat = 1 from rfl] at hx164_0)
     replace hx164_0 := (HB.out.cell (World.block_lt_of_cell? w _ hx164_0)).trans hx164_0
     replace p164 := eq_true p164
     replace q164 := eq_true q164
     have p165 : 0 ≤ (2 : Int) := (by omega)
     have q165 : 2 < (l1.length : Int) := of_decide_eq_true (by first | (with_reducible assumption) | assumption)
     obtain ⟨ad165, e165, hx165_0⟩ := Kd.at_int HR1.out 2 p165 q165
     have hw165_0 := hx165_0
     (try rw [show ((2 : Int)).toNat = 2 from rfl] at hw165_0)
     (try rw [show 2 * 1 = 2 from rfl] at hw165_0)
     (try simp only [Nat.reduceMul, Nat.reduceEqDiff, Go.Addr.add, ↓reduceIte] at hw165_0)
     obtain rfl : ad163 = ad165 := (by injection e165)
     (try simp only [show (2 : Int).toNat = 2 from rfl, Nat.reduceMul, Nat.reduceEqDiff, Go.Addr.add, ↓reduceIte] at hx165_0)
     have qi165 : (2 < l1.length) = True := eq_true (by omega)
     (try rw [show ((2 : Int)).toNat = 2 from rfl] at hx165_0)
     replace hx165_0 := (HB.out.cell (World.block_lt_of_cell? w _ hx165_0)).trans hx165_0
     replace p165 := eq_true p165
     replace q165 := eq_true q165
     have p166 : 0 ≤ (3 : Int) := (by omega)
     have q166 : 3 < (l1.length : Int) := of_decide_eq_true (by first | (with_reducible assumption) | assumption)
     obtain ⟨ad166, e166, hx166_0⟩ := Kd.at_int HR1.out 3 p166 q166
     have hw166_0 := hx166_0
     (try rw [show ((3 : Int)).toNat = 3 from rfl] at hw166_0)
     (try rw [show 3 * 1 = 3 from rfl] at hw166_0)
     (try simp only [Nat.reduceMul, Nat.reduceEqDiff, Go.Addr.add, ↓reduceIte] at hw166_0)
     obtain rfl : ad163 = ad166 := (by injection e166)
     (try simp only [show (3 : Int).toNat = 3 from rfl, Nat.reduceMul, Nat.reduceEqDiff, Go.Addr.add, ↓reduceIte] at hx166_0)
     have qi166 : (3 < l1.length) = True := eq_true (by omega)
     (try rw [show ((3 : Int)).toNat = 3 from rfl] at hx166_0)
     replace hx166_0 := (HB.out.cell (World.block_lt_of_cell? w _ hx166_0)).trans hx166_0
     replace p166 := eq_true p166
     replace q166 := eq_true q166
     refine start_ (n := 15) (S := fun w' => w'.cell? ⟨gb162, 0, none⟩ = some (.int .i64 a0_0) ∧ w'.cell? ⟨gb162, 1, none⟩ = some (.string a0_1) ∧ w'.cell? ad163 = some (.int .i64 (rd l1 0)) ∧ w'.cell? ⟨ad163.block, ad163.off + 1, none⟩ = some (.int .i64 (rd l1 1)) ∧ w'.cell? ⟨ad163.block, ad163.off + 2, none⟩ = some (.int .i64 (rd l1 2)) ∧ w'.cell? ⟨ad163.block, ad163.off + 3, none⟩ = some (.int .i64 (rd l1 3))) (ds := []) #[false, false, false, false, false, false, false, false, false, false, false, false, false, false, false] (by kernel_rfl) rfl rfl ⟨(blk_cell BK162.out 0).trans rfl, (blk_cell BK162.out 1).trans rfl, ((HB.out.cell (World.block_lt_of_cell? w _ hw163_0)).trans hw163_0), ((HB.out.cell (World.block_lt_of_cell? w _ hw164_0)).trans hw164_0), ((HB.out.cell (World.block_lt_of_cell? w _ hw165_0)).trans hw165_0), ((HB.out.cell (World.block_lt_of_cell? w _ hw166_0)).trans hw166_0)⟩ (fun hHeld => ?_); refine with_tabW spec_l5Split.tab1 spec_l5Split.bits1 (fun HT_ HW_ => ?_)
     generalize w8.drew = w9 at BK162 HB hx163_0 hx164_0 hx165_0 hx166_0 hHeld ⊢
     refine pu 1 11 HT_ ?_
     refine pu 2 12 HT_ ?_
     refine pu 4 14 HT_ ?_
     refine pu 5 15 HT_ ?_
     refine pu 7 17 HT_ ?_
     refine pu 8 18 HT_ ?_
     refine pu 10 20 HT_ ?_
     refine pu 11 21 HT_ ?_
     refine take_ (i := 0) (N := some 10) (v := ?_) (a' := ?_) #[true, true, true, false, true, true, false, true, true, false, true, true, false, false, false] rfl rfl (take_ofW HT_.out HW_.out (by kernel_rfl)) (fun _ _ _ h => h) (Or.inl ⟨by rfl, ?_⟩) hHeld ?_ ?_
     rotate_left
     ·rintro w' ⟨s0, s1, s2, s3, s4, s5⟩
      go_simp
      with_reducible rfl
     rotate_left
     ·simp only [Act.put, List.setIfInBounds_toArray, List.set_cons_zero, List.set_cons_succ, i64_w, i32_w]
      rfl
     refine take_ (i := 3) (N := some 13) (v := ?_) (a' := ?_) #[true, true, true, true, true, true, false, true, true, false, true, true, false, false, false] rfl rfl (take_ofW HT_.out HW_.out (by kernel_rfl)) (fun _ _ _ h => h) (Or.inl ⟨by rfl, ?_⟩) hHeld ?_ ?_
     rotate_left
     ·rintro w' ⟨s0, s1, s2, s3, s4, s5⟩
      go_simp
      with_reducible rfl
     rotate_left
     ·simp only [Act.put, List.setIfInBounds_toArray, List.set_cons_zero, List.set_cons_succ, i64_w, i32_w]
      rfl
     refine take_ (i := 6) (N := some 16) (v := ?_) (a' := ?_) #[true, true, true, true, true, true, true, true, true, false, true, true, false, false, false] rfl rfl (take_ofW HT_.out HW_.out (by kernel_rfl)) (fun _ _ _ h => h) (Or.inl ⟨by rfl, ?_⟩) hHeld ?_ ?_
     rotate_left
     ·rintro w' ⟨s0, s1, s2, s3, s4, s5⟩
      go_simp
      with_reducible rfl
     rotate_left
     ·simp only [Act.put, List.setIfInBounds_toArray, List.set_cons_zero, List.set_cons_succ, i64_w, i32_w]
      rfl
     refine take_ (i := 9) (N := some 19) (v := ?_) (a' := ?_) #[true, true, true, true, true, true, true, true, true, true, true, true, false, false, false] rfl rfl (take_ofW HT_.out HW_.out (by kernel_rfl)) (fun _ _ _ h => h) (Or.inl ⟨by rfl, ?_⟩) hHeld ?_ ?_
     rotate_left
     ·rintro w' ⟨s0, s1, s2, s3, s4, s5⟩
      go_simp
      with_reducible rfl
     rotate_left
     ·simp only [Act.put, List.setIfInBounds_toArray, List.set_cons_zero, List.set_cons_succ, i64_w, i32_w]
      rfl
     refine take_ (i := 12) (N := some 22) (v := ?_) (a' := ?_) #[true, true, true, true, true, true, true, true, true, true, true, true, true, false, false] rfl rfl (take_ofW HT_.out HW_.out (by kernel_rfl)) (fun _ _ _ h => h) (Or.inl ⟨by rfl, ?_⟩) hHeld ?_ ?_
     rotate_left
     ·rintro w' ⟨s0, s1, s2, s3, s4, s5⟩
      go_simp
      with_reducible rfl
     rotate_left
     ·simp only [Act.put, List.setIfInBounds_toArray, List.set_cons_zero, List.set_cons_succ, i64_w, i32_w]
      rfl
     refine one_ (i := 13) (N := some 23) #[true, true, true, true, true, true, true, true, true, true, true, true, true, true, false] rfl rfl (one_of HT_.out (by kernel_rfl)) (by decide) (fun K hK => ?_)
     refine goes_ Try.func133 (by kernel_rfl) rfl #[.agg #[.int .i64 a0_0, .string a0_1], .int .i64 (rd l1 0), .int .i64 (rd l1 1), .int .i64 (rd l1 2), .int .i64 (rd l1 3)] (by rfl) rfl rfl (by (try simp only [List.map_toArray, List.map_cons, List.map_nil]); first | done | rfl | (simp only [List.length_drop, List.length_take]; rfl)) ?_
     with_reducible refine (spec_l4Circuit.calls k a0_0 a0_1 (rd l1 0) (rd l1 1) (rd l1 2) (rd l1 3) t167 _ A7.out).mono ?_
     rintro e w10 ⟨rfl, hb⟩
     refine ⟨_, rfl, ?_⟩
     have n0_ := Aside0.mk (blk_below (g := gb162) (o := .cells #[.int .i64 a0_0, .string a0_1] 27 (0, 0)) (bk BK162) hb)
     have n1_ := bsg HB GE162 hb
     clear BK162
     clear HB
     have BK162 := n0_
     have HB := n1_
     clear n0_ n1_
     (try clear hb)
     (try clear hb2)
     (try clear hk)
     (try clear hi)
     refine hK.out _ _ ⟨(blk_cell BK162.out 0).trans rfl, (blk_cell BK162.out 1).trans rfl, ((HB.out.cell (World.block_lt_of_cell? w _ hw163_0)).trans hw163_0), ((HB.out.cell (World.block_lt_of_cell? w _ hw164_0)).trans hw164_0), ((HB.out.cell (World.block_lt_of_cell? w _ hw165_0)).trans hw165_0), ((HB.out.cell (World.block_lt_of_cell? w _ hw166_0)).trans hw166_0)⟩ (fun hHeld => ?_)
     clear hK K
     refine norm_ (a' := ?_) ?_ ?_
     rotate_left
     ·show Act.put _ (some 23) _ = _
      simp only [Act.put, List.setIfInBounds_toArray, List.set_cons_zero, List.set_cons_succ, i64_w, i32_w]
      rfl
     refine pu 14 6 HT_ ?_
     refine done_ (done_of HT_.out (by kernel_rfl)) ?_
     try go_wp2
     go_loopg [7, 8, 9] k (fun kq v7 v8 v9 w' => ∃ (x7_1 : Int) (x8_1 : Int) (x9_1 : Int), v7 = .int .i64 x7_1 ∧ v8 = .int .i64 x8_1 ∧ v9 = .int .i64 x9_1 ∧ Aside0 (spec_l5Split.l0 kq l1 t167 x7_1 x8_1 x9_1 = some (r1, r2)) ∧ Aside0 (kq ≤ k) ∧ Aside0 (w'.heap[gb162]? = some (.cells #[.int .i64 a0_0, .string a0_1] 27 (0, 0))) ∧ Aside0 (Below w.heap.size w w'))
     case atStart => exact ⟨(0), (0), (0), (by first | rfl | (simp; done) | (simp [*]; done)), (by first | rfl | (simp; done) | (simp [*]; done)), (by first | rfl | (simp; done) | (simp [*]; done)), H', ⟨Nat.le_refl _⟩, ⟨by (with_reducible repeat (first | refine blk_drewN ?_ _ | refine blk_drew ?_ | refine blk_alloc ?_ _)); exact BK162.out⟩, ⟨(bg HB GE162)⟩⟩
     case round =>
      clear H'
      try clear c1
      try clear p1
      try clear q1
      try clear hx1
      try clear qi1
      try clear p2
      try clear c3
      try clear c3b0
      try clear c3b1
      try clear c4
      try clear c4b0
      try clear c4b1
      try clear c5
      try clear c5b0
      try clear c5b1
      try clear c6
      try clear c6b0
      try clear c6b1
      try clear hx163_0
      try clear hx164_0
      try clear hx165_0
      try clear hx166_0
      try clear p163
      try clear p164
      try clear p165
      try clear p166
      try clear q163
      try clear q164
      try clear q165
      try clear q166
      obtain ⟨x7_1, x8_1, x9_1, rfl, rfl, rfl, HA, HK1, BK162, HB⟩ := hrel
      cases gk with
      | zero => exact absurd HA.out (by simp [spec_l5Split.l0])
      | succ k1 =>
       have H := HA.out
       clear HA
       simp only [spec_l5Split.l0] at H
       by_cases c11 : x9_1 < 4
       ·rw [if_pos c11] at H
        have c11b0 : decide (x9_1 < 4) = true := decide_eq_true c11
        clear c11
        by_cases c12 : 0 ≤ x9_1
        ·rw [if_pos c12] at H
         have c12b0 : decide (0 ≤ x9_1) = true := decide_eq_true c12
         clear c12
         by_cases c13 : x9_1 < (t167.size : Int)
         ·rw [if_pos c13] at H
          have c13b0 : decide (x9_1 < (t167.size : Int)) = true := decide_eq_true c13
          clear c13
          by_cases c15 : (bt t167 x9_1) = 43
          ·rw [if_pos c15] at H
           have c15b0 : ((bt t167 x9_1) == 43) = true := beq_iff_eq.mpr c15
           have c15b1 : ((bt t167 x9_1) != 43) = false := bne_eq_false_iff_eq.mpr c15
           clear c15
           by_cases c16 : x9_1 < (l1.length : Int)
           ·rw [if_pos c16] at H
            have c16b0 : decide (x9_1 < (l1.length : Int)) = true := decide_eq_true c16
            clear c16
            obtain ⟨ji17, hji17⟩ : ∃ j_ : Int, (IntKind.u64.wrap (rd l1 x9_1)) = j_ := ⟨_, rfl⟩
            replace H : (if 0 ≤ (ji17) then (spec_l5Split.l0 k1 l1 t167 (wrap64 (x7_1 + (shl .i64 1 (ji17)))) x8_1 (wrap64 (x9_1 + 1))) else (none)) = some (r1, r2) := by first | (rw [hji17] at H; exact H) | (simp only [hji17] at H ⊢; exact H)
            by_cases c18 : 0 ≤ (ji17)
            ·rw [if_pos c18] at H
             have c18b0 := eq_true c18
             have c18b1 : decide (0 ≤ (ji17)) = true := decide_eq_true c18
             clear c18
             obtain ⟨ji19, hji19⟩ : ∃ j_ : Int, (shl .i64 1 (ji17)) = j_ := ⟨_, rfl⟩
             replace H : (spec_l5Split.l0 k1 l1 t167 (wrap64 (x7_1 + (ji19))) x8_1 (wrap64 (x9_1 + 1))) = some (r1, r2) := by first | (rw [hji19] at H; exact H) | (simp only [hji19] at H ⊢; exact H)
             have hji19_ : (IntKind.i64.wrap (1 * 2 ^ min (ji17).toNat 64)) = ji19 := hji19
             have hji19z : (ji17) ≤ 64 → (IntKind.i64.wrap (1 * 2 ^ (ji17).toNat)) = ji19 := shl_small hji19
             have hji19u : (IntKind.i64.wrap (2 ^ min (ji17).toNat 64)) = ji19 := by have h_ := hji19_; rw [Int.one_mul] at h_; exact h_
             have hji19v : (ji17) ≤ 64 → (IntKind.i64.wrap (2 ^ (ji17).toNat)) = ji19 := fun hle_ => by have h_ := hji19z hle_; rw [Int.one_mul] at h_; exact h_
             have hji19y : (wrap64 (1 * 2 ^ min (ji17).toNat 64)) = ji19 := (i64_w _).symm.trans hji19_
             have hji19x : (ji17) ≤ 64 → (wrap64 (1 * 2 ^ (ji17).toNat)) = ji19 := fun h_ => (i64_w _).symm.trans (hji19z h_)
             have H' := Aside0.mk H
             clear H
             have p14 : 0 ≤ (x9_1 : Int) := of_decide_eq_true (by first | (with_reducible assumption) | assumption)
             have q14 : x9_1 < (t167.size : Int) := of_decide_eq_true (by first | (with_reducible assumption) | assumption)
             have hx14 := bt_at t167 x9_1
             replace p14 := eq_true p14
             replace q14 := eq_true q14
             have p168 : 0 ≤ (x9_1 : Int) := of_decide_eq_true (by first | (with_reducible assumption) | assumption)
             have q168 : x9_1 < (l1.length : Int) := of_decide_eq_true (by first | (with_reducible assumption) | assumption)
             obtain ⟨ad168, e168, hx168_0⟩ := Kd.at_int HR1.out x9_1 p168 q168
             obtain rfl : ad163 = ad168 := (by injection e168)
             replace hx168_0 := (HB.out.cell (World.block_lt_of_cell? w _ hx168_0)).trans hx168_0
             replace p168 := eq_true p168
             replace q168 := eq_true q168
             go_wp2
             go_roundg k1
             case measure => have := HK1.out; omega
             case rel => exact ⟨(wrap64 (x7_1 + (ji19))), (x8_1), (wrap64 (x9_1 + 1)), (by first | rfl | (simp; done) | (simp only [← hji19] <;> (first | rfl | simp)) | (simp [*]; done)), (by first | rfl | (simp; done) | (simp [*]; done)), (by first | rfl | (simp; done) | (simp [*]; done)), H', ⟨by have := HK1.out; omega⟩, ⟨by (with_reducible repeat (first | refine blk_drewN ?_ _ | refine blk_drew ?_ | refine blk_alloc ?_ _)); exact BK162.out⟩, ⟨(bg HB GE162)⟩⟩
            ·rw [if_neg c18] at H
             exact absurd H (by simp)
           ·rw [if_neg c16] at H
            exact absurd H (by simp)
          ·rw [if_neg c15] at H
           have c15b0 : ((bt t167 x9_1) == 43) = false := beq_eq_false_iff_ne.mpr c15
           have c15b1 : ((bt t167 x9_1) != 43) = true := bne_iff_ne.mpr c15
           by_cases c20 : x9_1 < (l1.length : Int)
           ·rw [if_pos c20] at H
            have c20b0 : decide (x9_1 < (l1.length : Int)) = true := decide_eq_true c20
            clear c20
            obtain ⟨ji21, hji21⟩ : ∃ j_ : Int, (IntKind.u64.wrap (rd l1 x9_1)) = j_ := ⟨_, rfl⟩
            replace H : (if 0 ≤ (ji21) then (spec_l5Split.l0 k1 l1 t167 x7_1 (wrap64 (x8_1 + (shl .i64 1 (ji21)))) (wrap64 (x9_1 + 1))) else (none)) = some (r1, r2) := by first | (rw [hji21] at H; exact H) | (simp only [hji21] at H ⊢; exact H)
            by_cases c22 : 0 ≤ (ji21)
            ·rw [if_pos c22] at H
             have c22b0 := eq_true c22
             have c22b1 : decide (0 ≤ (ji21)) = true := decide_eq_true c22
             clear c22
             obtain ⟨ji23, hji23⟩ : ∃ j_ : Int, (shl .i64 1 (ji21)) = j_ := ⟨_, rfl⟩
             replace H : (spec_l5Split.l0 k1 l1 t167 x7_1 (wrap64 (x8_1 + (ji23))) (wrap64 (x9_1 + 1))) = some (r1, r2) := by first | (rw [hji23] at H; exact H) | (simp only [hji23] at H ⊢; exact H)
             have hji23_ : (IntKind.i64.wrap (1 * 2 ^ min (ji21).toNat 64)) = ji23 := hji23
             have hji23z : (ji21) ≤ 64 → (IntKind.i64.wrap (1 * 2 ^ (ji21).toNat)) = ji23 := shl_small hji23
             have hji23u : (IntKind.i64.wrap (2 ^ min (ji21).toNat 64)) = ji23 := by have h_ := hji23_; rw [Int.one_mul] at h_; exact h_
             have hji23v : (ji21) ≤ 64 → (IntKind.i64.wrap (2 ^ (ji21).toNat)) = ji23 := fun hle_ => by have h_ := hji23z hle_; rw [Int.one_mul] at h_; exact h_
             have hji23y : (wrap64 (1 * 2 ^ min (ji21).toNat 64)) = ji23 := (i64_w _).symm.trans hji23_
             have hji23x : (ji21) ≤ 64 → (wrap64 (1 * 2 ^ (ji21).toNat)) = ji23 := fun h_ => (i64_w _).symm.trans (hji23z h_)
             have H' := Aside0.mk H
             clear H
             have p14 : 0 ≤ (x9_1 : Int) := of_decide_eq_true (by first | (with_reducible assumption) | assumption)
             have q14 : x9_1 < (t167.size : Int) := of_decide_eq_true (by first | (with_reducible assumption) | assumption)
             have hx14 := bt_at t167 x9_1
             replace p14 := eq_true p14
             replace q14 := eq_true q14
             have p169 : 0 ≤ (x9_1 : Int) := of_decide_eq_true (by first | (with_reducible assumption) | assumption)
             have q169 : x9_1 < (l1.length : Int) := of_decide_eq_true (by first | (with_reducible assumption) | assumption)
             obtain ⟨ad169, e169, hx169_0⟩ := Kd.at_int HR1.out x9_1 p169 q169
             obtain rfl : ad163 = ad169 := (by injection e169)
             replace hx169_0 := (HB.out.cell (World.block_lt_of_cell? w _ hx169_0)).trans hx169_0
             replace p169 := eq_true p169
             replace q169 := eq_true q169
             go_wp2
             go_roundg k1
             case measure => have := HK1.out; omega
             case rel => exact ⟨(x7_1), (wrap64 (x8_1 + (ji23))), (wrap64 (x9_1 + 1)), (by first | rfl | (simp; done) | (simp [*]; done)), (by first | rfl | (simp; done) | (simp only [← hji23] <;> (first | rfl | simp)) | (simp [*]; done)), (by first | rfl | (simp; done) | (simp [*]; done)), H', ⟨by have := HK1.out; omega⟩, ⟨by (with_reducible repeat (first | refine blk_drewN ?_ _ | refine blk_drew ?_ | refine blk_alloc ?_ _)); exact BK162.out⟩, ⟨(bg HB GE162)⟩⟩
            ·rw [if_neg c22] at H
             exact absurd H (by simp)
           ·rw [if_neg c20] at H
            exact absurd H (by simp)
         ·rw [if_neg c13] at H
          exact absurd H (by simp)
        ·rw [if_neg c12] at H
         exact absurd H (by simp)
       ·rw [if_neg c11] at H
        have c11b0 : decide (x9_1 < 4) = false := decide_eq_false c11
        clear c11
        simp only [Option.some.injEq, Prod.mk.injEq] at H
        obtain ⟨rfl, rfl⟩ := H
        go_wp2
        go_ret2
        exact ⟨by first | rfl | (simp [errW_none, errW_some] <;> rfl) | (simp [*, errW_none, errW_some] <;> rfl), (bg HB GE162)⟩
    ·rw [if_neg c6] at H
     exact absurd H (by simp)
   ·rw [if_neg c5] at H
    exact absurd H (by simp)
  ·rw [if_neg c4] at H
   exact absurd H (by simp)
 ·rw [if_neg c3] at H
  exact absurd H (by simp)

/-! ### spec_l9Cross: function 82 -/
def spec_l9Cross.f (k : Nat) (a0_0 : Int) (a0_1 : ByteArray) (a1 : Int) (a2 : Int) (a3 : Int) (a4 : Int) : Option (Bool) := if a1 = a3 then (some false) else (if a1 = a4 then (some false) else (if a2 = a3 then (some false) else (if a2 = a4 then (some false) else ((spec_l5Split.f k a0_0 a0_1 (([a1, a2, a3, a4] : List Int))).bind fun bt174 => (if 0 ≤ (IntKind.u64.wrap (a1)) then (if 0 ≤ (IntKind.u64.wrap (a2)) then (some (bt174.1 == (wrap64 ((shl .i64 1 (IntKind.u64.wrap (a1))) + (shl .i64 1 (IntKind.u64.wrap (a2))))))) else (none)) else (none))))))
theorem spec_l9Cross.mono : ∀ a0 a1 a2 a3 a4 a5 k, LeO (spec_l9Cross.f k a0 a1 a2 a3 a4 a5) (spec_l9Cross.f (k + 1) a0 a1 a2 a3 a4 a5) := by
 intro a0 a1 a2 a3 a4 a5 k
 unfold spec_l9Cross.f
 repeat' first
   | (with_reducible exact spec_l5Split.mono _ _ _ _)
   | (with_reducible exact LeO.refl _)
   | (with_reducible exact LeO.none _)
   | (with_reducible refine LeO.ite ?_ ?_)
   | (with_reducible refine LeO.bind ?_ (fun _ => ?_))
   | exact spec_l5Split.mono _ _ _ _
   | exact LeO.none _
   | refine LeO.ite ?_ ?_
   | refine LeO.bind ?_ (fun _ => ?_)
set_option maxHeartbeats 8000000 in
set_option maxRecDepth 100000 in
theorem spec_l9Cross.calls (k : Nat) (a0_0 : Int) (a0_1 : ByteArray) (a1 : Int) (a2 : Int) (a3 : Int) (a4 : Int) (r : Bool) (w : World) (h : spec_l9Cross.f k a0_0 a0_1 a1 a2 a3 a4 = some r) :
  Calls Try.prog 82 #[.agg #[.int .i64 a0_0, .string a0_1], .int .i64 a1, .int .i64 a2, .int .i64 a3, .int .i64 a4] w fun e w' => e = .returned (.bool r) ∧ Below w.heap.size w w' := by
 have hu27 := Try.underlying27
 have HB := Aside0.mk (Below.refl w.heap.size w)
 have H : (if a1 = a3 then (some false) else (if a1 = a4 then (some false) else (if a2 = a3 then (some false) else (if a2 = a4 then (some false) else ((spec_l5Split.f k a0_0 a0_1 (([a1, a2, a3, a4] : List Int))).bind fun bt174 => (if 0 ≤ (IntKind.u64.wrap (a1)) then (if 0 ≤ (IntKind.u64.wrap (a2)) then (some (bt174.1 == (wrap64 ((shl .i64 1 (IntKind.u64.wrap (a1))) + (shl .i64 1 (IntKind.u64.wrap (a2))))))) else (none)) else (none))))))) = some r := h
 clear h
 by_cases c6 : a1 = a3
 ·rw [if_pos c6] at H
  have c6b0 : (a1 == a3) = true := beq_iff_eq.mpr c6
  have c6b1 : (a1 != a3) = false := bne_eq_false_iff_eq.mpr c6
  clear c6
  obtain rfl := Option.some.inj H
  go_enter Try.func82, Try.ntmps82
  go_wp2_with (first | ((with_reducible refine gate_dst (N := 5) rfl ?_); refine bx 5 #[.int .i64 a0_0, .string a0_1] 27 ?_; intro gb170 hg w7 hbox hb; have BK170 := Aside0.mk hbox; have GE170 := gs HB hg; have GW170 := GE170; replace HB := bs HB hb; clear hb hbox hg))
  go_ret
  exact ⟨by first | rfl | (simp [errW_none, errW_some] <;> rfl) | (simp [*, errW_none, errW_some] <;> rfl), (bg HB GE170)⟩
 ·rw [if_neg c6] at H
  have c6b0 : (a1 == a3) = false := beq_eq_false_iff_ne.mpr c6
  have c6b1 : (a1 != a3) = true := bne_iff_ne.mpr c6
  by_cases c8 : a1 = a4
  ·rw [if_pos c8] at H
   have c8b0 : (a1 == a4) = true := beq_iff_eq.mpr c8
   have c8b1 : (a1 != a4) = false := bne_eq_false_iff_eq.mpr c8
   clear c8
   obtain rfl := Option.some.inj H
   go_enter Try.func82, Try.ntmps82
   go_wp2_with (first | ((with_reducible refine gate_dst (N := 5) rfl ?_); refine bx 5 #[.int .i64 a0_0, .string a0_1] 27 ?_; intro gb170 hg w9 hbox hb; have BK170 := Aside0.mk hbox; have GE170 := gs HB hg; have GW170 := GE170; replace HB := bs HB hb; clear hb hbox hg))
   go_ret
   exact ⟨by first | rfl | (simp [errW_none, errW_some] <;> rfl) | (simp [*, errW_none, errW_some] <;> rfl), (bg HB GE170)⟩
  ·rw [if_neg c8] at H
   have c8b0 : (a1 == a4) = false := beq_eq_false_iff_ne.mpr c8
   have c8b1 : (a1 != a4) = true := bne_iff_ne.mpr c8
   by_cases c10 : a2 = a3
   ·rw [if_pos c10] at H
    have c10b0 : (a2 == a3) = true := beq_iff_eq.mpr c10
    have c10b1 : (a2 != a3) = false := bne_eq_false_iff_eq.mpr c10
    clear c10
    obtain rfl := Option.some.inj H
    go_enter Try.func82, Try.ntmps82
    go_wp2_with (first | ((with_reducible refine gate_dst (N := 5) rfl ?_); refine bx 5 #[.int .i64 a0_0, .string a0_1] 27 ?_; intro gb170 hg w11 hbox hb; have BK170 := Aside0.mk hbox; have GE170 := gs HB hg; have GW170 := GE170; replace HB := bs HB hb; clear hb hbox hg))
    go_ret
    exact ⟨by first | rfl | (simp [errW_none, errW_some] <;> rfl) | (simp [*, errW_none, errW_some] <;> rfl), (bg HB GE170)⟩
   ·rw [if_neg c10] at H
    have c10b0 : (a2 == a3) = false := beq_eq_false_iff_ne.mpr c10
    have c10b1 : (a2 != a3) = true := bne_iff_ne.mpr c10
    by_cases c12 : a2 = a4
    ·rw [if_pos c12] at H
     have c12b0 : (a2 == a4) = true := beq_iff_eq.mpr c12
     have c12b1 : (a2 != a4) = false := bne_eq_false_iff_eq.mpr c12
     clear c12
     obtain rfl := Option.some.inj H
     go_enter Try.func82, Try.ntmps82
     go_wp2_with (first | ((with_reducible refine gate_dst (N := 5) rfl ?_); refine bx 5 #[.int .i64 a0_0, .string a0_1] 27 ?_; intro gb170 hg w13 hbox hb; have BK170 := Aside0.mk hbox; have GE170 := gs HB hg; have GW170 := GE170; replace HB := bs HB hb; clear hb hbox hg))
     go_ret
     exact ⟨by first | rfl | (simp [errW_none, errW_some] <;> rfl) | (simp [*, errW_none, errW_some] <;> rfl), (bg HB GE170)⟩
    ·rw [if_neg c12] at H
     have c12b0 : (a2 == a4) = false := beq_eq_false_iff_ne.mpr c12
     have c12b1 : (a2 != a4) = true := bne_iff_ne.mpr c12
     obtain ⟨y171, hy171⟩ : ∃ y_ : List Int, y_ = (([a1, a2, a3, a4] : List Int)) := ⟨_, rfl⟩
     replace H : ((spec_l5Split.f k a0_0 a0_1 y171).bind fun bt174 => (if 0 ≤ (IntKind.u64.wrap (a1)) then (if 0 ≤ (IntKind.u64.wrap (a2)) then (some (bt174.1 == (wrap64 ((shl .i64 1 (IntKind.u64.wrap (a1))) + (shl .i64 1 (IntKind.u64.wrap (a2))))))) else (none)) else (none))) = some r := by first | (rw [hy171]; with_reducible exact H) | (have H2_ := (Option.bind_some _ _).symm.trans H; rw [hy171]; with_reducible exact H2_) | (have H2_ := (Option.bind_some _ _).symm.trans H; with_reducible exact H2_) | with_reducible exact H | (rw [hy171]; exact H) | exact H
     have Ny171 := Aside0.mk hy171
     clear hy171
     replace H := Option.bind_eq_some_iff.mp H
     obtain ⟨⟨t174, t175⟩, A140, H⟩ := H
     (try dsimp only at H)
     have A14 := Aside0.mk A140
     clear A140
     obtain ⟨ji15, hji15⟩ : ∃ j_ : Int, (IntKind.u64.wrap (a1)) = j_ := ⟨_, rfl⟩
     replace H : (if 0 ≤ (ji15) then (if 0 ≤ (IntKind.u64.wrap (a2)) then (some (t174 == (wrap64 ((shl .i64 1 (ji15)) + (shl .i64 1 (IntKind.u64.wrap (a2))))))) else (none)) else (none)) = some r := by first | (rw [hji15] at H; exact H) | (simp only [hji15] at H ⊢; exact H)
     (try rw [hji15] at A14)
     by_cases c16 : 0 ≤ (ji15)
     ·rw [if_pos c16] at H
      have c16b0 := eq_true c16
      have c16b1 : decide (0 ≤ (ji15)) = true := decide_eq_true c16
      clear c16
      obtain ⟨ji17, hji17⟩ : ∃ j_ : Int, (shl .i64 1 (ji15)) = j_ := ⟨_, rfl⟩
      replace H : (if 0 ≤ (IntKind.u64.wrap (a2)) then (some (t174 == (wrap64 ((ji17) + (shl .i64 1 (IntKind.u64.wrap (a2))))))) else (none)) = some r := by first | (rw [hji17] at H; exact H) | (simp only [hji17] at H ⊢; exact H)
      (try rw [hji17] at A14)
      have hji17_ : (IntKind.i64.wrap (1 * 2 ^ min (ji15).toNat 64)) = ji17 := hji17
      have hji17z : (ji15) ≤ 64 → (IntKind.i64.wrap (1 * 2 ^ (ji15).toNat)) = ji17 := shl_small hji17
      have hji17u : (IntKind.i64.wrap (2 ^ min (ji15).toNat 64)) = ji17 := by have h_ := hji17_; rw [Int.one_mul] at h_; exact h_
      have hji17v : (ji15) ≤ 64 → (IntKind.i64.wrap (2 ^ (ji15).toNat)) = ji17 := fun hle_ => by have h_ := hji17z hle_; rw [Int.one_mul] at h_; exact h_
      have hji17y : (wrap64 (1 * 2 ^ min (ji15).toNat 64)) = ji17 := (i64_w _).symm.trans hji17_
      have hji17x : (ji15) ≤ 64 → (wrap64 (1 * 2 ^ (ji15).toNat)) = ji17 := fun h_ => (i64_w _).symm.trans (hji17z h_)
      obtain ⟨ji18, hji18⟩ : ∃ j_ : Int, (IntKind.u64.wrap (a2)) = j_ := ⟨_, rfl⟩
      replace H : (if 0 ≤ (ji18) then (some (t174 == (wrap64 ((ji17) + (shl .i64 1 (ji18)))))) else (none)) = some r := by first | (rw [hji18] at H; exact H) | (simp only [hji18] at H ⊢; exact H)
      (try rw [hji18] at A14)
      by_cases c19 : 0 ≤ (ji18)
      ·rw [if_pos c19] at H
       have c19b0 := eq_true c19
       have c19b1 : decide (0 ≤ (ji18)) = true := decide_eq_true c19
       clear c19
       obtain ⟨ji20, hji20⟩ : ∃ j_ : Int, (shl .i64 1 (ji18)) = j_ := ⟨_, rfl⟩
       replace H : (some (t174 == (wrap64 ((ji17) + (ji20))))) = some r := by first | (rw [hji20] at H; exact H) | (simp only [hji20] at H ⊢; exact H)
       (try rw [hji20] at A14)
       have hji20_ : (IntKind.i64.wrap (1 * 2 ^ min (ji18).toNat 64)) = ji20 := hji20
       have hji20z : (ji18) ≤ 64 → (IntKind.i64.wrap (1 * 2 ^ (ji18).toNat)) = ji20 := shl_small hji20
       have hji20u : (IntKind.i64.wrap (2 ^ min (ji18).toNat 64)) = ji20 := by have h_ := hji20_; rw [Int.one_mul] at h_; exact h_
       have hji20v : (ji18) ≤ 64 → (IntKind.i64.wrap (2 ^ (ji18).toNat)) = ji20 := fun hle_ => by have h_ := hji20z hle_; rw [Int.one_mul] at h_; exact h_
       have hji20y : (wrap64 (1 * 2 ^ min (ji18).toNat 64)) = ji20 := (i64_w _).symm.trans hji20_
       have hji20x : (ji18) ≤ 64 → (wrap64 (1 * 2 ^ (ji18).toNat)) = ji20 := fun h_ => (i64_w _).symm.trans (hji20z h_)
       obtain rfl := Option.some.inj H
       go_enter Try.func82, Try.ntmps82
       go_wp2_with (first | ((with_reducible refine gate_dst (N := 5) rfl ?_); refine bx 5 #[.int .i64 a0_0, .string a0_1] 27 ?_; intro gb170 hg w21 hbox hb; have BK170 := Aside0.mk hbox; have GE170 := gs HB hg; have GW170 := GE170; replace HB := bs HB hb; clear hb hbox hg; have hcz22_0 := bc BK170 0; have hcz22_1 := bc BK170 1; have hfz22_0 := bf BK170 0; have hfz22_1 := bf BK170 1) | ((with_reducible refine gate_dst (N := 37) rfl ?_); refine Kd.R_lit (Kd.int .i64) _ 3 ?hg (N := 37) ?hd (xs := ([a1, a2, a3, a4] : List Int)) (inner := [.int .i64 a1, .int .i64 a2, .int .i64 a3, .int .i64 a4]) (ok := fun _ => True) (okp := fun _ => True) ?hr ?hp (fun _ hk => hk) trivial (Below.refl _ _) (Nat.le_refl _) (by simp) ?_; (case hd => rfl); (case hg => rfl); (case hr => first | (go_simp; done) | (go_simp; rfl)); (case hp => exact (Reps.one (show Kd.M (Kd.int .i64) _ _ _ a1 [.int .i64 a1] from rfl) (Reps.one (show Kd.M (Kd.int .i64) _ _ _ a2 [.int .i64 a2] from rfl) (Reps.one (show Kd.M (Kd.int .i64) _ _ _ a3 [.int .i64 a3] from rfl) (Reps.one (show Kd.M (Kd.int .i64) _ _ _ a4 [.int .i64 a4] from rfl) (Reps.none _ _)))))); intro v172 w23 ho24 hb hg_ hnew_; clear hg_ hnew_; (first | rw [← Ny171.out] at ho24 | (simp only [Int.reduceToNat] at ho24; rw [← Ny171.out] at ho24)); have n0_ := Aside0.mk (Kd.R_lower ho24 (below_size (bg HB GE170))); have n1_ := Aside0.mk (blk_below (g := gb170) (o := .cells #[.int .i64 a0_0, .string a0_1] 27 (0, 0)) (bk BK170) hb); have n2_ := bsg HB GE170 hb; clear BK170; clear HB; have HO173 := n0_; have BK170 := n1_; have HB := n2_; clear n0_ n1_ n2_; clear hb ho24; obtain ⟨Ao25, co25, eo25⟩ := Kd.R_slice HO173.out; subst eo25) | ((with_reducible refine gate_callee (f := 113) rfl ?_); refine gL (some 38) rfl rfl Try.func113 (by kernel_rfl) rfl #[.agg #[.int .i64 a0_0, .string a0_1], .slice Ao25 y171.length co25] rfl ?_; (with_reducible refine (spec_l5Split.calls k a0_0 a0_1 _ _ y171 t174 t175 _ ?side1 ?side2 A14.out).mono ?_); (case side1 => repeat (first | exact (Kd.R_reads' HO173.out).2.2 | (with_reducible refine Kd.C_alloc ?_ _) | (with_reducible refine Kd.C_drewN ?_ _) | (with_reducible refine Kd.C_drew ?_))); (case side2 => exact (Kd.R_reads' HO173.out).2.1); rintro e w26 ⟨rfl, hb⟩; refine ⟨_, rfl, ?_⟩; have n0_ := Aside0.mk (Kd.R_below (rr HO173) hb); have n1_ := Aside0.mk (blk_below (g := gb170) (o := .cells #[.int .i64 a0_0, .string a0_1] 27 (0, 0)) (bk BK170) hb); have n2_ := bsg HB GE170 hb; clear HO173; clear BK170; clear HB; have HO173 := n0_; have BK170 := n1_; have HB := n2_; clear n0_ n1_ n2_; (try clear hb); (try clear hb2); (try clear hk); (try clear hi)))
       go_ret
       exact ⟨by first | rfl | (simp [errW_none, errW_some] <;> rfl) | (simp only [← hji15, ← hji17, ← hji18, ← hji20]; first | rfl | (simp [errW_none, errW_some] <;> rfl)) | (simp [*, errW_none, errW_some] <;> rfl), (bg HB GE170)⟩
      ·rw [if_neg c19] at H
       exact absurd H (by simp)
     ·rw [if_neg c16] at H
      exact absurd H (by simp)

/-! ### spec_l10Pairs: function 48 -/
mutual
def spec_l10Pairs.l0 : Nat → List Int → Int → Int → ByteArray → Option (List Int)
 | 0, _, _, _, _ => none
 | k + 1, x3, x4, x177000, x177001 => if x4 < (wrap64 (Int.tdiv (wrap64 (x177000 * (wrap64 (x177000 - 1)))) 2)) then ((spec_EdgeAt.f k x177000 x4).bind fun bt180 => (spec_l10Pairs.l1 k x3 x4 bt180.1 bt180.2 0 0 x177000 x177001)) else (some x3)
def spec_l10Pairs.l1 : Nat → List Int → Int → Int → Int → Int → Int → Int → ByteArray → Option (List Int)
 | 0, _, _, _, _, _, _, _, _ => none
 | k + 1, x3, x4, x5, x6, x7, x8, x177000, x177001 => if x8 < (wrap64 (Int.tdiv (wrap64 (x177000 * (wrap64 (x177000 - 1)))) 2)) then ((spec_EdgeAt.f k x177000 x8).bind fun bt185 => ((spec_l9Cross.f k x177000 x177001 x5 x6 bt185.1 bt185.2).bind fun t187 => (if t187 = true then (if 0 ≤ (IntKind.u64.wrap (x8)) then (spec_l10Pairs.l1 k x3 x4 x5 x6 (wrap64 (x7 + (shl .i64 1 (IntKind.u64.wrap (x8))))) (wrap64 (x8 + 1)) x177000 x177001) else (none)) else (spec_l10Pairs.l1 k x3 x4 x5 x6 x7 (wrap64 (x8 + 1)) x177000 x177001)))) else (if x3.length < 17592186044416 then (spec_l10Pairs.l0 k (x3 ++ [x7]) (wrap64 (x4 + 1)) x177000 x177001) else (none))
end
def spec_l10Pairs.f (k : Nat) (a0_0 : Int) (a0_1 : ByteArray) : Option (List Int) := spec_l10Pairs.l0 k (([] : List Int)) 0 a0_0 a0_1
theorem spec_l10Pairs.mono_l : ∀ k, (∀ y0 y1 y2 y3, LeO (spec_l10Pairs.l0 k y0 y1 y2 y3) (spec_l10Pairs.l0 (k + 1) y0 y1 y2 y3)) ∧ (∀ y0 y1 y2 y3 y4 y5 y6 y7, LeO (spec_l10Pairs.l1 k y0 y1 y2 y3 y4 y5 y6 y7) (spec_l10Pairs.l1 (k + 1) y0 y1 y2 y3 y4 y5 y6 y7))
 | 0 => ⟨fun _ _ _ _ r h => by simp [spec_l10Pairs.l0] at h, fun _ _ _ _ _ _ _ _ r h => by simp [spec_l10Pairs.l1] at h⟩
 | k + 1 => by
  obtain ⟨ih0, ih1⟩ := spec_l10Pairs.mono_l k
  refine ⟨?_, ?_⟩
  ·intro y0 y1 y2 y3
   unfold spec_l10Pairs.l0
   repeat' first
   | (with_reducible exact ih0 _ _ _ _)
   | (with_reducible exact ih1 _ _ _ _ _ _ _ _)
   | (with_reducible exact spec_EdgeAt.mono _ _ _)
   | (with_reducible exact spec_l9Cross.mono _ _ _ _ _ _ _)
   | (with_reducible exact LeO.refl _)
   | (with_reducible exact LeO.none _)
   | (with_reducible refine LeO.ite ?_ ?_)
   | (with_reducible refine LeO.bind ?_ (fun _ => ?_))
   | exact ih0 _ _ _ _
   | exact ih1 _ _ _ _ _ _ _ _
   | exact spec_EdgeAt.mono _ _ _
   | exact spec_l9Cross.mono _ _ _ _ _ _ _
   | exact LeO.none _
   | refine LeO.ite ?_ ?_
   | refine LeO.bind ?_ (fun _ => ?_)
  ·intro y0 y1 y2 y3 y4 y5 y6 y7
   unfold spec_l10Pairs.l1
   repeat' first
   | (with_reducible exact ih0 _ _ _ _)
   | (with_reducible exact ih1 _ _ _ _ _ _ _ _)
   | (with_reducible exact spec_EdgeAt.mono _ _ _)
   | (with_reducible exact spec_l9Cross.mono _ _ _ _ _ _ _)
   | (with_reducible exact LeO.refl _)
   | (with_reducible exact LeO.none _)
   | (with_reducible refine LeO.ite ?_ ?_)
   | (with_reducible refine LeO.bind ?_ (fun _ => ?_))
   | exact ih0 _ _ _ _
   | exact ih1 _ _ _ _ _ _ _ _
   | exact spec_EdgeAt.mono _ _ _
   | exact spec_l9Cross.mono _ _ _ _ _ _ _
   | exact LeO.none _
   | refine LeO.ite ?_ ?_
   | refine LeO.bind ?_ (fun _ => ?_)
theorem spec_l10Pairs.mono : ∀ a0 a1 k, LeO (spec_l10Pairs.f k a0 a1) (spec_l10Pairs.f (k + 1) a0 a1) := by
 intro a0 a1 k
 obtain ⟨ih0, ih1⟩ := spec_l10Pairs.mono_l k
 unfold spec_l10Pairs.f
 repeat' first
   | (with_reducible exact ih0 _ _ _ _)
   | (with_reducible exact ih1 _ _ _ _ _ _ _ _)
   | (with_reducible exact spec_EdgeAt.mono _ _ _)
   | (with_reducible exact spec_l9Cross.mono _ _ _ _ _ _ _)
   | (with_reducible exact LeO.refl _)
   | (with_reducible exact LeO.none _)
   | (with_reducible refine LeO.ite ?_ ?_)
   | (with_reducible refine LeO.bind ?_ (fun _ => ?_))
   | exact ih0 _ _ _ _
   | exact ih1 _ _ _ _ _ _ _ _
   | exact spec_EdgeAt.mono _ _ _
   | exact spec_l9Cross.mono _ _ _ _ _ _ _
   | exact LeO.none _
   | refine LeO.ite ?_ ?_
   | refine LeO.bind ?_ (fun _ => ?_)
set_option maxHeartbeats 8000000 in
set_option maxRecDepth 100000 in
theorem spec_l10Pairs.calls (k : Nat) (a0_0 : Int) (a0_1 : ByteArray) (r : List Int) (w : World) (h : spec_l10Pairs.f k a0_0 a0_1 = some r) :
  Calls Try.prog 48 #[.agg #[.int .i64 a0_0, .string a0_1]] w fun e w' => ∃ v0_ : Value, e = .returned (v0_) ∧ Kd.R (Kd.int .i64) 3 w' w.heap.size (fun _ => True) v0_ r ∧ Below w.heap.size w w' := by
 have hu27 := Try.underlying27
 have HB := Aside0.mk (Below.refl w.heap.size w)
 have H : (spec_l10Pairs.l0 k (([] : List Int)) 0 a0_0 a0_1) = some r := h
 clear h
 obtain ⟨y177, hy177⟩ : ∃ y_ : List Int, y_ = (([] : List Int)) := ⟨_, rfl⟩
 replace H : (spec_l10Pairs.l0 k y177 0 a0_0 a0_1) = some r := by first | (rw [hy177]; with_reducible exact H) | (have H2_ := (Option.bind_some _ _).symm.trans H; rw [hy177]; with_reducible exact H2_) | (have H2_ := (Option.bind_some _ _).symm.trans H; with_reducible exact H2_) | with_reducible exact H | (rw [hy177]; exact H) | exact H
 have Ny177 := Aside0.mk hy177
 clear hy177
 have H' := Aside0.mk H
 clear H
 go_enter Try.func48, Try.ntmps48
 go_wp2_with (first | ((with_reducible refine gate_dst (N := 1) rfl ?_); refine bx 1 #[.int .i64 a0_0, .string a0_1] 27 ?_; intro gb176 hg w2 hbox hb; have BK176 := Aside0.mk hbox; have GE176 := gs HB hg; have GW176 := GE176; replace HB := bs HB hb; clear hb hbox hg) | ((with_reducible refine gate_dst (N := 11) rfl ?_); refine Kd.R_lit (Kd.int .i64) _ 3 ?hg (N := 11) ?hd (xs := ([] : List Int)) (inner := []) (ok := fun _ => True) (okp := fun _ => True) ?hr ?hp (fun _ hk => hk) trivial (Below.refl _ _) (Nat.le_refl _) (by simp) ?_; (case hd => rfl); (case hg => rfl); (case hr => first | (go_simp; done) | (go_simp; rfl)); (case hp => exact (Reps.none _ _)); intro v178 w3 ho4 hb hg_ hnew_; clear hg_ hnew_; (first | rw [← Ny177.out] at ho4 | (simp only [Int.reduceToNat] at ho4; rw [← Ny177.out] at ho4)); have n0_ := Aside0.mk (Kd.R_lower ho4 (below_size (bg HB GE176))); have n1_ := Aside0.mk (blk_below (g := gb176) (o := .cells #[.int .i64 a0_0, .string a0_1] 27 (0, 0)) (bk BK176) hb); have n2_ := bsg HB GE176 hb; clear BK176; clear HB; have HO179 := n0_; have BK176 := n1_; have HB := n2_; clear n0_ n1_ n2_; clear hb ho4))
 go_loopg [3, 4] k (fun kq v3 v4 w' => ∃ (x3_1 : List Int) (x4_1 : Int), v4 = .int .i64 x4_1 ∧ Aside0 (spec_l10Pairs.l0 kq x3_1 x4_1 a0_0 a0_1 = some r) ∧ Aside0 (kq ≤ k) ∧ Aside0 (Kd.R (Kd.int .i64) 3 w' w.heap.size (fun _ => True) v3 x3_1) ∧ Aside0 (w'.heap[gb176]? = some (.cells #[.int .i64 a0_0, .string a0_1] 27 (0, 0))) ∧ Aside0 (Below w.heap.size w w'))
 case atStart => exact ⟨(y177), (0), (by first | rfl | (simp; done) | (simp [*]; done)), H', ⟨Nat.le_refl _⟩, ⟨by (with_reducible repeat (first | apply Kd.R_alloc | apply Kd.R_drewN | apply Kd.R_drew)); exact HO179.out⟩, ⟨by (with_reducible repeat (first | refine blk_drewN ?_ _ | refine blk_drew ?_ | refine blk_alloc ?_ _)); exact BK176.out⟩, ⟨(bg HB GE176)⟩⟩
 case round =>
  clear H'
  try clear p2
  try clear c4
  obtain ⟨x3_1, x4_1, rfl, HA, HK1, HO_3, BK176, HB⟩ := hrel
  cases gk with
  | zero => exact absurd HA.out (by simp [spec_l10Pairs.l0])
  | succ k1 =>
   have H := HA.out
   clear HA
   simp only [spec_l10Pairs.l0] at H
   by_cases c5 : x4_1 < (wrap64 (Int.tdiv (wrap64 (a0_0 * (wrap64 (a0_0 - 1)))) 2))
   ·rw [if_pos c5] at H
    have c5b0 : decide (x4_1 < (wrap64 (Int.tdiv (wrap64 (a0_0 * (wrap64 (a0_0 - 1)))) 2))) = true := decide_eq_true c5
    clear c5
    replace H := Option.bind_eq_some_iff.mp H
    obtain ⟨⟨t180, t181⟩, A60, H⟩ := H
    (try dsimp only at H)
    have A6 := Aside0.mk A60
    clear A60
    have H' := Aside0.mk H
    clear H
    have hcz7_0 := bc BK176 0
    have hcz7_1 := bc BK176 1
    have hfz7_0 := bf BK176 0
    have hfz7_1 := bf BK176 1
    go_wp2_with (first | ((with_reducible refine gate_callee (f := 81) rfl ?_); refine gL (some 27) rfl rfl Try.func81 (by kernel_rfl) rfl #[.int .i64 a0_0, .int .i64 x4_1] rfl ?_; (with_reducible refine (spec_EdgeAt.calls k1 a0_0 x4_1 t180 t181 _ A6.out).mono ?_); rintro e w' ⟨rfl, ⟨nd, rfl⟩⟩; refine ⟨_, rfl, ?_⟩))
    go_loopg [7, 8] k1 (fun kq v7 v8 w' => ∃ (x7_2 : Int) (x8_2 : Int), v7 = .int .i64 x7_2 ∧ v8 = .int .i64 x8_2 ∧ Aside0 (spec_l10Pairs.l1 kq x3_1 x4_1 t180 t181 x7_2 x8_2 a0_0 a0_1 = some r) ∧ Aside0 (kq ≤ k1) ∧ Aside0 (Kd.R (Kd.int .i64) 3 w' w.heap.size (fun _ => True) u3 x3_1) ∧ Aside0 (w'.heap[gb176]? = some (.cells #[.int .i64 a0_0, .string a0_1] 27 (0, 0))) ∧ Aside0 (Below w.heap.size w w'))
    case atStart => exact ⟨(0), (0), (by first | rfl | (simp; done) | (simp [*]; done)), (by first | rfl | (simp; done) | (simp [*]; done)), H', ⟨Nat.le_refl _⟩, ⟨by (with_reducible repeat (first | apply Kd.R_alloc | apply Kd.R_drewN | apply Kd.R_drew)); exact HO_3.out⟩, ⟨by (with_reducible repeat (first | refine blk_drewN ?_ _ | refine blk_drew ?_ | refine blk_alloc ?_ _)); exact BK176.out⟩, ⟨(bg HB GE176)⟩⟩
    case round =>
     clear H'
     try clear p2
     try clear c4
     try clear c5
     try clear c5b0
     try clear p6
     try clear hcz7_0
     try clear hcz7_1
     try clear hfz7_0
     try clear hfz7_1
     try clear p2
     obtain ⟨x7_2, x8_2, rfl, rfl, HA, HK2, HO_3, BK176, HB⟩ := hrel
     cases gk with
     | zero => exact absurd HA.out (by simp [spec_l10Pairs.l1])
     | succ k2 =>
      have H := HA.out
      clear HA
      simp only [spec_l10Pairs.l1] at H
      by_cases c8 : x8_2 < (wrap64 (Int.tdiv (wrap64 (a0_0 * (wrap64 (a0_0 - 1)))) 2))
      ·rw [if_pos c8] at H
       have c8b0 : decide (x8_2 < (wrap64 (Int.tdiv (wrap64 (a0_0 * (wrap64 (a0_0 - 1)))) 2))) = true := decide_eq_true c8
       clear c8
       replace H := Option.bind_eq_some_iff.mp H
       obtain ⟨⟨t185, t186⟩, A90, H⟩ := H
       (try dsimp only at H)
       have A9 := Aside0.mk A90
       clear A90
       replace H := Option.bind_eq_some_iff.mp H
       obtain ⟨t187, A100, H⟩ := H
       (try dsimp only at H)
       have A10 := Aside0.mk A100
       clear A100
       by_cases c11 : t187 = true
       ·subst c11
        have H1 : (if 0 ≤ (IntKind.u64.wrap (x8_2)) then (spec_l10Pairs.l1 k2 x3_1 x4_1 t180 t181 (wrap64 (x7_2 + (shl .i64 1 (IntKind.u64.wrap (x8_2))))) (wrap64 (x8_2 + 1)) a0_0 a0_1) else (none)) = some r := by rw [if_pos rfl] at H; exact H
        clear H
        have H := H1
        clear H1
        obtain ⟨ji12, hji12⟩ : ∃ j_ : Int, (IntKind.u64.wrap (x8_2)) = j_ := ⟨_, rfl⟩
        replace H : (if 0 ≤ (ji12) then (spec_l10Pairs.l1 k2 x3_1 x4_1 t180 t181 (wrap64 (x7_2 + (shl .i64 1 (ji12)))) (wrap64 (x8_2 + 1)) a0_0 a0_1) else (none)) = some r := by first | (rw [hji12] at H; exact H) | (simp only [hji12] at H ⊢; exact H)
        (try rw [hji12] at A9)
        (try rw [hji12] at A10)
        by_cases c13 : 0 ≤ (ji12)
        ·rw [if_pos c13] at H
         have c13b0 := eq_true c13
         have c13b1 : decide (0 ≤ (ji12)) = true := decide_eq_true c13
         clear c13
         obtain ⟨ji14, hji14⟩ : ∃ j_ : Int, (shl .i64 1 (ji12)) = j_ := ⟨_, rfl⟩
         replace H : (spec_l10Pairs.l1 k2 x3_1 x4_1 t180 t181 (wrap64 (x7_2 + (ji14))) (wrap64 (x8_2 + 1)) a0_0 a0_1) = some r := by first | (rw [hji14] at H; exact H) | (simp only [hji14] at H ⊢; exact H)
         (try rw [hji14] at A9)
         (try rw [hji14] at A10)
         have hji14_ : (IntKind.i64.wrap (1 * 2 ^ min (ji12).toNat 64)) = ji14 := hji14
         have hji14z : (ji12) ≤ 64 → (IntKind.i64.wrap (1 * 2 ^ (ji12).toNat)) = ji14 := shl_small hji14
         have hji14u : (IntKind.i64.wrap (2 ^ min (ji12).toNat 64)) = ji14 := by have h_ := hji14_; rw [Int.one_mul] at h_; exact h_
         have hji14v : (ji12) ≤ 64 → (IntKind.i64.wrap (2 ^ (ji12).toNat)) = ji14 := fun hle_ => by have h_ := hji14z hle_; rw [Int.one_mul] at h_; exact h_
         have hji14y : (wrap64 (1 * 2 ^ min (ji12).toNat 64)) = ji14 := (i64_w _).symm.trans hji14_
         have hji14x : (ji12) ≤ 64 → (wrap64 (1 * 2 ^ (ji12).toNat)) = ji14 := fun h_ => (i64_w _).symm.trans (hji14z h_)
         have H' := Aside0.mk H
         clear H
         have hcz15_0 := bc BK176 0
         have hcz15_1 := bc BK176 1
         have hfz15_0 := bf BK176 0
         have hfz15_1 := bf BK176 1
         go_wp2_with (first | ((with_reducible refine gate_callee (f := 81) rfl ?_); refine gL (some 45) rfl rfl Try.func81 (by kernel_rfl) rfl #[.int .i64 a0_0, .int .i64 x8_2] rfl ?_; (with_reducible refine (spec_EdgeAt.calls k2 a0_0 x8_2 t185 t186 _ A9.out).mono ?_); rintro e w' ⟨rfl, ⟨nd, rfl⟩⟩; refine ⟨_, rfl, ?_⟩) | ((with_reducible refine gate_callee (f := 82) rfl ?_); refine gL (some 53) rfl rfl Try.func82 (by kernel_rfl) rfl #[.agg #[.int .i64 a0_0, .string a0_1], .int .i64 t180, .int .i64 t181, .int .i64 t185, .int .i64 t186] rfl ?_; (with_reducible refine (spec_l9Cross.calls k2 a0_0 a0_1 t180 t181 t185 t186 true _ A10.out).mono ?_); rintro e w16 ⟨rfl, hb⟩; refine ⟨_, rfl, ?_⟩; have n0_ := Aside0.mk (Kd.R_below (rr HO_3) hb); have n1_ := Aside0.mk (blk_below (g := gb176) (o := .cells #[.int .i64 a0_0, .string a0_1] 27 (0, 0)) (bk BK176) hb); have n2_ := bsg HB GE176 hb; clear HO_3; clear BK176; clear HB; have HO_3 := n0_; have BK176 := n1_; have HB := n2_; clear n0_ n1_ n2_; (try clear hb); (try clear hb2); (try clear hk); (try clear hi)))
         go_roundg k2
         case measure => have := HK1.out; have := HK2.out; omega
         case rel => exact ⟨(wrap64 (x7_2 + (ji14))), (wrap64 (x8_2 + 1)), (by first | rfl | (simp; done) | (simp only [← hji14] <;> (first | rfl | simp)) | (simp [*]; done)), (by first | rfl | (simp; done) | (simp [*]; done)), H', ⟨by have := HK1.out; have := HK2.out; omega⟩, ⟨by (with_reducible repeat (first | apply Kd.R_alloc | apply Kd.R_drewN | apply Kd.R_drew)); exact HO_3.out⟩, ⟨by (with_reducible repeat (first | refine blk_drewN ?_ _ | refine blk_drew ?_ | refine blk_alloc ?_ _)); exact BK176.out⟩, ⟨(bg HB GE176)⟩⟩
        ·rw [if_neg c13] at H
         exact absurd H (by simp)
       ·replace c11 := Bool.eq_false_iff.mpr c11
        subst c11
        have H1 : (spec_l10Pairs.l1 k2 x3_1 x4_1 t180 t181 x7_2 (wrap64 (x8_2 + 1)) a0_0 a0_1) = some r := by rw [if_neg (show ¬ (false = true) by decide)] at H; exact H
        clear H
        have H := H1
        clear H1
        have H' := Aside0.mk H
        clear H
        have hcz17_0 := bc BK176 0
        have hcz17_1 := bc BK176 1
        have hfz17_0 := bf BK176 0
        have hfz17_1 := bf BK176 1
        go_wp2_with (first | ((with_reducible refine gate_callee (f := 81) rfl ?_); refine gL (some 45) rfl rfl Try.func81 (by kernel_rfl) rfl #[.int .i64 a0_0, .int .i64 x8_2] rfl ?_; (with_reducible refine (spec_EdgeAt.calls k2 a0_0 x8_2 t185 t186 _ A9.out).mono ?_); rintro e w' ⟨rfl, ⟨nd, rfl⟩⟩; refine ⟨_, rfl, ?_⟩) | ((with_reducible refine gate_callee (f := 82) rfl ?_); refine gL (some 53) rfl rfl Try.func82 (by kernel_rfl) rfl #[.agg #[.int .i64 a0_0, .string a0_1], .int .i64 t180, .int .i64 t181, .int .i64 t185, .int .i64 t186] rfl ?_; (with_reducible refine (spec_l9Cross.calls k2 a0_0 a0_1 t180 t181 t185 t186 false _ A10.out).mono ?_); rintro e w18 ⟨rfl, hb⟩; refine ⟨_, rfl, ?_⟩; have n0_ := Aside0.mk (Kd.R_below (rr HO_3) hb); have n1_ := Aside0.mk (blk_below (g := gb176) (o := .cells #[.int .i64 a0_0, .string a0_1] 27 (0, 0)) (bk BK176) hb); have n2_ := bsg HB GE176 hb; clear HO_3; clear BK176; clear HB; have HO_3 := n0_; have BK176 := n1_; have HB := n2_; clear n0_ n1_ n2_; (try clear hb); (try clear hb2); (try clear hk); (try clear hi)))
        go_roundg k2
        case measure => have := HK1.out; have := HK2.out; omega
        case rel => exact ⟨(x7_2), (wrap64 (x8_2 + 1)), (by first | rfl | (simp; done) | (simp [*]; done)), (by first | rfl | (simp; done) | (simp [*]; done)), H', ⟨by have := HK1.out; have := HK2.out; omega⟩, ⟨by (with_reducible repeat (first | apply Kd.R_alloc | apply Kd.R_drewN | apply Kd.R_drew)); exact HO_3.out⟩, ⟨by (with_reducible repeat (first | refine blk_drewN ?_ _ | refine blk_drew ?_ | refine blk_alloc ?_ _)); exact BK176.out⟩, ⟨(bg HB GE176)⟩⟩
      ·rw [if_neg c8] at H
       have c8b0 : decide (x8_2 < (wrap64 (Int.tdiv (wrap64 (a0_0 * (wrap64 (a0_0 - 1)))) 2))) = false := decide_eq_false c8
       clear c8
       by_cases c19 : x3_1.length < 17592186044416
       ·rw [if_pos c19] at H
        have LMc19 := Aside0.mk c19
        clear c19
        obtain ⟨y182, hy182⟩ : ∃ y_ : List Int, y_ = (x3_1 ++ [x7_2]) := ⟨_, rfl⟩
        replace H : (spec_l10Pairs.l0 k2 y182 (wrap64 (x4_1 + 1)) a0_0 a0_1) = some r := by first | (rw [hy182]; with_reducible exact H) | (have H2_ := (Option.bind_some _ _).symm.trans H; rw [hy182]; with_reducible exact H2_) | (have H2_ := (Option.bind_some _ _).symm.trans H; with_reducible exact H2_) | with_reducible exact H | (rw [hy182]; exact H) | exact H
        have Ny182 := Aside0.mk hy182
        clear hy182
        have H' := Aside0.mk H
        clear H
        have hcz20_0 := bc BK176 0
        have hcz20_1 := bc BK176 1
        have hfz20_0 := bf BK176 0
        have hfz20_1 := bf BK176 1
        go_wp2_with (first | ((with_reducible refine gate_builtin (b := .append) (xs := #[.tmp 59, .tmp 61]) rfl ?_); at_builtin; refine Kd.R_append (Kd.int .i64) (w0 := w) w.heap.size rfl (.tmp 59) (.tmp 61) 25 3 (.int .i64 0) 8 rfl Try.underlying25 info3 rfl (by decide) (by omega) u3 x3_1 x7_2 [.int .i64 x7_2] (fun _ => True) (fun _ => False) rfl rfl ?aP (fun _ hk => hk.elim) ?aF ?aO ?aB ?aS ?aL ?_; (case aP => exact rfl); (case aB => exact (bg HB GE176)); (case aF => exact (fun _ _ => trivial)); (case aO => exact (rr HO_3)); (case aS => exact (below_size (bg HB GE176))); (case aL => have := LMc19.out; omega); intro v183 w21 ho hb hg hat; rw [← Ny182.out] at ho; have n0_ := Aside0.mk (blk_grown (g := gb176) (o := .cells #[.int .i64 a0_0, .string a0_1] 27 (0, 0)) (bk BK176) hg (Kd.R_ne HO_3.out BK176.out (by decide))); have n1_ := Aside0.mk (hb); have n2_ := Aside0.mk (ho); clear BK176; clear HB; clear HO_3; have BK176 := n0_; have HB := n1_; have HO184 := n2_; clear n0_ n1_ n2_; clear ho hb hg hat))
        go_roundg k2
        case measure => have := HK1.out; have := HK2.out; omega
        case rel => exact ⟨(y182), (wrap64 (x4_1 + 1)), (by first | rfl | (simp; done) | (simp [*]; done)), H', ⟨by have := HK1.out; have := HK2.out; omega⟩, ⟨by (with_reducible repeat (first | apply Kd.R_alloc | apply Kd.R_drewN | apply Kd.R_drew)); exact HO184.out⟩, ⟨by (with_reducible repeat (first | refine blk_drewN ?_ _ | refine blk_drew ?_ | refine blk_alloc ?_ _)); exact BK176.out⟩, ⟨(bg HB GE176)⟩⟩
       ·rw [if_neg c19] at H
        exact absurd H (by simp)
   ·rw [if_neg c5] at H
    have c5b0 : decide (x4_1 < (wrap64 (Int.tdiv (wrap64 (a0_0 * (wrap64 (a0_0 - 1)))) 2))) = false := decide_eq_false c5
    clear c5
    obtain rfl := Option.some.inj H
    have hcz22_0 := bc BK176 0
    have hcz22_1 := bc BK176 1
    have hfz22_0 := bf BK176 0
    have hfz22_1 := bf BK176 1
    go_wp2
    go_ret
    exact ⟨_, by first | rfl | (simp [errW_none, errW_some] <;> rfl) | (simp [*, errW_none, errW_some] <;> rfl), by (with_reducible repeat (first | apply Kd.R_alloc | apply Kd.R_drewN | apply Kd.R_drew)); exact HO_3.out, (bg HB GE176)⟩

/-! ### spec_l6Has: function 78 -/
def spec_l6Has.f (a0 : Int) (a1 : Int) : Option (Bool) := if 0 ≤ (IntKind.u64.wrap (a1)) then (some ((Go.bits .and .i64 (shr .i64 a0 (IntKind.u64.wrap (a1))) 1) == 1)) else (none)
set_option maxHeartbeats 8000000 in
set_option maxRecDepth 100000 in
theorem spec_l6Has.calls (a0 : Int) (a1 : Int) (r : Bool) (w : World) (h : spec_l6Has.f a0 a1 = some r) :
  Calls Try.prog 78 #[.int .i64 a0, .int .i64 a1] w fun e w' => e = .returned (.bool r) ∧ Drawn0 w w' := by
 have H : (if 0 ≤ (IntKind.u64.wrap (a1)) then (some ((Go.bits .and .i64 (shr .i64 a0 (IntKind.u64.wrap (a1))) 1) == 1)) else (none)) = some r := h
 clear h
 obtain ⟨ji3, hji3⟩ : ∃ j_ : Int, (IntKind.u64.wrap (a1)) = j_ := ⟨_, rfl⟩
 replace H : (if 0 ≤ (ji3) then (some ((Go.bits .and .i64 (shr .i64 a0 (ji3)) 1) == 1)) else (none)) = some r := by first | (rw [hji3] at H; exact H) | (simp only [hji3] at H ⊢; exact H)
 by_cases c4 : 0 ≤ (ji3)
 ·rw [if_pos c4] at H
  have c4b0 := eq_true c4
  have c4b1 : decide (0 ≤ (ji3)) = true := decide_eq_true c4
  clear c4
  obtain ⟨ji5, hji5⟩ : ∃ j_ : Int, (shr .i64 a0 (ji3)) = j_ := ⟨_, rfl⟩
  replace H : (some ((Go.bits .and .i64 (ji5) 1) == 1)) = some r := by first | (rw [hji5] at H; exact H) | (simp only [hji5] at H ⊢; exact H)
  have hji5_ : (a0 / 2 ^ min (ji3).toNat 64) = ji5 := hji5
  have hji5z : (ji3) ≤ 64 → (a0 / 2 ^ (ji3).toNat) = ji5 := shr_small hji5
  obtain rfl := Option.some.inj H
  go_enter Try.func78, Try.ntmps78
  go_wp2
  go_ret
  exact ⟨by first | rfl | (simp; done) | (simp only [← hji3, ← hji5] <;> (first | rfl | simp)) | (simp [*]; done), by repeat (first | exact Drawn0.refl _ | apply Drawn0.step)⟩
 ·rw [if_neg c4] at H
  exact absurd H (by simp)

/-! ### spec_AllEdges: function 76 -/
def spec_AllEdges.f (a0 : Int) : Option (Int) := (spec_l1In.f a0 3 7).bind fun t203 => (if t203 = true then (if 0 ≤ (IntKind.u64.wrap (wrap64 (Int.tdiv (wrap64 (a0 * (wrap64 (a0 - 1)))) 2))) then (some (wrap64 ((shl .i64 1 (IntKind.u64.wrap (wrap64 (Int.tdiv (wrap64 (a0 * (wrap64 (a0 - 1)))) 2)))) - 1))) else (none)) else (some 0))
set_option maxHeartbeats 8000000 in
set_option maxRecDepth 100000 in
theorem spec_AllEdges.calls (a0 : Int) (r : Int) (w : World) (h : spec_AllEdges.f a0 = some r) :
  Calls Try.prog 76 #[.int .i64 a0] w fun e w' => e = .returned (.int .i64 r) ∧ Drawn0 w w' := by
 have H : ((spec_l1In.f a0 3 7).bind fun t203 => (if t203 = true then (if 0 ≤ (IntKind.u64.wrap (wrap64 (Int.tdiv (wrap64 (a0 * (wrap64 (a0 - 1)))) 2))) then (some (wrap64 ((shl .i64 1 (IntKind.u64.wrap (wrap64 (Int.tdiv (wrap64 (a0 * (wrap64 (a0 - 1)))) 2)))) - 1))) else (none)) else (some 0))) = some r := h
 clear h
 replace H := Option.bind_eq_some_iff.mp H
 obtain ⟨t203, A20, H⟩ := H
 (try dsimp only at H)
 have A2 := Aside0.mk A20
 clear A20
 by_cases c3 : t203 = true
 ·subst c3
  have H1 : (if 0 ≤ (IntKind.u64.wrap (wrap64 (Int.tdiv (wrap64 (a0 * (wrap64 (a0 - 1)))) 2))) then (some (wrap64 ((shl .i64 1 (IntKind.u64.wrap (wrap64 (Int.tdiv (wrap64 (a0 * (wrap64 (a0 - 1)))) 2)))) - 1))) else (none)) = some r := by rw [if_pos rfl] at H; exact H
  clear H
  have H := H1
  clear H1
  obtain ⟨ji4, hji4⟩ : ∃ j_ : Int, (IntKind.u64.wrap (wrap64 (Int.tdiv (wrap64 (a0 * (wrap64 (a0 - 1)))) 2))) = j_ := ⟨_, rfl⟩
  replace H : (if 0 ≤ (ji4) then (some (wrap64 ((shl .i64 1 (ji4)) - 1))) else (none)) = some r := by first | (rw [hji4] at H; exact H) | (simp only [hji4] at H ⊢; exact H)
  (try rw [hji4] at A2)
  by_cases c5 : 0 ≤ (ji4)
  ·rw [if_pos c5] at H
   have c5b0 := eq_true c5
   have c5b1 : decide (0 ≤ (ji4)) = true := decide_eq_true c5
   clear c5
   obtain ⟨ji6, hji6⟩ : ∃ j_ : Int, (shl .i64 1 (ji4)) = j_ := ⟨_, rfl⟩
   replace H : (some (wrap64 ((ji6) - 1))) = some r := by first | (rw [hji6] at H; exact H) | (simp only [hji6] at H ⊢; exact H)
   (try rw [hji6] at A2)
   have hji6_ : (IntKind.i64.wrap (1 * 2 ^ min (ji4).toNat 64)) = ji6 := hji6
   have hji6z : (ji4) ≤ 64 → (IntKind.i64.wrap (1 * 2 ^ (ji4).toNat)) = ji6 := shl_small hji6
   have hji6u : (IntKind.i64.wrap (2 ^ min (ji4).toNat 64)) = ji6 := by have h_ := hji6_; rw [Int.one_mul] at h_; exact h_
   have hji6v : (ji4) ≤ 64 → (IntKind.i64.wrap (2 ^ (ji4).toNat)) = ji6 := fun hle_ => by have h_ := hji6z hle_; rw [Int.one_mul] at h_; exact h_
   have hji6y : (wrap64 (1 * 2 ^ min (ji4).toNat 64)) = ji6 := (i64_w _).symm.trans hji6_
   have hji6x : (ji4) ≤ 64 → (wrap64 (1 * 2 ^ (ji4).toNat)) = ji6 := fun h_ => (i64_w _).symm.trans (hji6z h_)
   obtain rfl := Option.some.inj H
   go_enter Try.func76, Try.ntmps76
   go_wp2_with (first | ((with_reducible refine gate_callee (f := 68) rfl ?_); refine gL (some 4) rfl rfl Try.func68 (by kernel_rfl) rfl #[.int .i64 a0, .int .i64 3, .int .i64 7] rfl ?_; (with_reducible refine (spec_l1In.calls a0 3 7 true _ A2.out).mono ?_); rintro e w' ⟨rfl, ⟨nd, rfl⟩⟩; refine ⟨_, rfl, ?_⟩))
   go_ret
   exact ⟨by first | rfl | (simp; done) | (simp only [← hji4, ← hji6] <;> (first | rfl | simp)) | (simp [*]; done), by repeat (first | exact Drawn0.refl _ | apply Drawn0.step)⟩
  ·rw [if_neg c5] at H
   exact absurd H (by simp)
 ·replace c3 := Bool.eq_false_iff.mpr c3
  subst c3
  have H1 : (some 0) = some r := by rw [if_neg (show ¬ (false = true) by decide)] at H; exact H
  clear H
  have H := H1
  clear H1
  obtain rfl := Option.some.inj H
  go_enter Try.func76, Try.ntmps76
  go_wp2_with (first | ((with_reducible refine gate_callee (f := 68) rfl ?_); refine gL (some 4) rfl rfl Try.func68 (by kernel_rfl) rfl #[.int .i64 a0, .int .i64 3, .int .i64 7] rfl ?_; (with_reducible refine (spec_l1In.calls a0 3 7 false _ A2.out).mono ?_); rintro e w' ⟨rfl, ⟨nd, rfl⟩⟩; refine ⟨_, rfl, ?_⟩))
  go_ret
  exact ⟨by first | rfl | (simp; done) | (simp [*]; done), by repeat (first | exact Drawn0.refl _ | apply Drawn0.step)⟩

/-! ### laws_toSigns: function 12 -/
def laws_toSigns.f (a0_0 : Int) (a0_1 : ByteArray) : Option (Int × ByteArray) := some (a0_0, a0_1)
set_option maxHeartbeats 8000000 in
set_option maxRecDepth 100000 in
theorem laws_toSigns.calls (a0_0 : Int) (a0_1 : ByteArray) (r1 : Int) (r2 : ByteArray) (w : World) (h : laws_toSigns.f a0_0 a0_1 = some (r1, r2)) :
  Calls Try.prog 12 #[.agg #[.int .i64 a0_0, .string a0_1]] w fun e w' => e = .returned (.agg #[.int .i64 r1, .string r2]) ∧ Below w.heap.size w w' := by
 have hu23 := Try.underlying23
 have hu27 := Try.underlying27
 have HB := Aside0.mk (Below.refl w.heap.size w)
 have H : (some (a0_0, a0_1)) = some (r1, r2) := h
 clear h
 simp only [Option.some.injEq, Prod.mk.injEq] at H
 obtain ⟨rfl, rfl⟩ := H
 go_enter Try.func12, Try.ntmps12
 go_wp2_with (first | ((with_reducible refine gate_dst (N := 1) rfl ?_); refine bx 1 #[.int .i64 a0_0, .string a0_1] 23 ?_; intro gb254 hg w2 hbox hb; have BK254 := Aside0.mk hbox; have GE254 := gs HB hg; have GW254 := GE254; replace HB := bs HB hb; clear hb hbox hg) | ((with_reducible refine gate_dst (N := 2) rfl ?_); refine bx 2 #[.int .i64 0, .string (⟨#[]⟩ : ByteArray)] 27 ?_; intro gb255 hg w3 hbox hb; have n0_ := Aside0.mk (blk_below (g := gb254) (o := .cells #[.int .i64 a0_0, .string a0_1] 23 (0, 0)) (bk BK254) hb); have n1_ := bsg HB GE254 hb; have n2_ := Aside0.mk (hbox); have n3_ := Aside0.mk ((by rw [hg]; exact (below_size (bg HB GE254)) : w.heap.size ≤ gb255)); have n4_ := Aside0.mk ((by rw [hg]; exact (below_size (bg HB GE254)) : w.heap.size ≤ gb255)); have n5_ := Aside0.mk ((by rw [hg]; exact Nat.ne_of_lt (blk_lt (g := gb254) (o := .cells #[.int .i64 a0_0, .string a0_1] 23 (0, 0)) (bk BK254)) : gb254 ≠ gb255)); have n6_ := Aside0.mk ((by rw [hg]; exact Nat.ne_of_gt (blk_lt (g := gb254) (o := .cells #[.int .i64 a0_0, .string a0_1] 23 (0, 0)) (bk BK254)) : gb255 ≠ gb254)); clear BK254; clear HB; have BK254 := n0_; have HB := n1_; have BK255 := n2_; have GW255 := n3_; have GE255 := n4_; have NB254_255 := n5_; have NB255_254 := n6_; clear n0_ n1_ n2_ n3_ n4_ n5_ n6_; clear hb hbox hg) | ((with_reducible refine gate_dst (N := 3) rfl ?_); refine bx 3 #[.int .i64 0, .string (⟨#[]⟩ : ByteArray)] 27 ?_; intro gb256 hg w4 hbox hb; have n0_ := Aside0.mk (blk_below (g := gb254) (o := .cells #[.int .i64 a0_0, .string a0_1] 23 (0, 0)) (bk BK254) hb); have n1_ := Aside0.mk (blk_below (g := gb255) (o := .cells #[.int .i64 0, .string (⟨#[]⟩ : ByteArray)] 27 (0, 0)) (bk BK255) hb); have n2_ := Aside0.mk (below_step (by repeat (first | (with_reducible first | exact HB.out | apply below_alloc | apply pw_below_drewN | apply below_drew1 | refine below_set ?_ GE254.out | refine below_set ?_ GE255.out) | exact HB.out)) hb); have n3_ := Aside0.mk (hbox); have n4_ := Aside0.mk ((by rw [hg]; exact (below_size (by repeat (first | (with_reducible first | exact HB.out | apply below_alloc | apply pw_below_drewN | apply below_drew1 | refine below_set ?_ GE254.out | refine below_set ?_ GE255.out) | exact HB.out))) : w.heap.size ≤ gb256)); have n5_ := Aside0.mk ((by rw [hg]; exact (below_size (by repeat (first | (with_reducible first | exact HB.out | apply below_alloc | apply pw_below_drewN | apply below_drew1 | refine below_set ?_ GE254.out | refine below_set ?_ GE255.out) | exact HB.out))) : w.heap.size ≤ gb256)); have n6_ := Aside0.mk ((by rw [hg]; exact Nat.ne_of_lt (blk_lt (g := gb254) (o := .cells #[.int .i64 a0_0, .string a0_1] 23 (0, 0)) (bk BK254)) : gb254 ≠ gb256)); have n7_ := Aside0.mk ((by rw [hg]; exact Nat.ne_of_gt (blk_lt (g := gb254) (o := .cells #[.int .i64 a0_0, .string a0_1] 23 (0, 0)) (bk BK254)) : gb256 ≠ gb254)); have n8_ := Aside0.mk ((by rw [hg]; exact Nat.ne_of_lt (blk_lt (g := gb255) (o := .cells #[.int .i64 0, .string (⟨#[]⟩ : ByteArray)] 27 (0, 0)) (bk BK255)) : gb255 ≠ gb256)); have n9_ := Aside0.mk ((by rw [hg]; exact Nat.ne_of_gt (blk_lt (g := gb255) (o := .cells #[.int .i64 0, .string (⟨#[]⟩ : ByteArray)] 27 (0, 0)) (bk BK255)) : gb256 ≠ gb255)); clear BK254; clear BK255; clear HB; have BK254 := n0_; have BK255 := n1_; have HB := n2_; have BK256 := n3_; have GW256 := n4_; have GE256 := n5_; have NB254_256 := n6_; have NB256_254 := n7_; have NB255_256 := n8_; have NB256_255 := n9_; clear n0_ n1_ n2_ n3_ n4_ n5_ n6_ n7_ n8_ n9_; clear hb hbox hg; have hnb5 := NB254_255.out; have hnc5 := NB255_254.out; have hnb6 := NB254_256.out; have hnc6 := NB256_254.out; have hcz7_0 := bc BK254 0; have hcz7_1 := bc BK254 1; have hfz7_0 := bf BK254 0; have hfz7_1 := bf BK254 1; have hnb8 := NB256_255.out; have hnc8 := NB255_256.out; have hcz9_0 := bc BK256 0; have hcz9_1 := bc BK256 1; have hfz9_0 := bf BK256 0; have hfz9_1 := bf BK256 1; have hcz10_0 := bc BK255 0; have hcz10_1 := bc BK255 1; have hfz10_0 := bf BK255 0; have hfz10_1 := bf BK255 1))
 refine bodyPost_ret (results_cell_row rfl _ _ gb255 27 #[.int .i64 a0_0, .string a0_1] (0, 0) _ rfl (by (with_reducible repeat (first | refine blk_drewN ?_ _ | refine blk_drew ?_ | refine blk_alloc ?_ _)); refine blk_put (cs := #[.int .i64 a0_0, .string (⟨#[]⟩ : ByteArray)]) ?_ 1 _ rfl; (with_reducible repeat (first | refine blk_drewN ?_ _ | refine blk_drew ?_ | refine blk_alloc ?_ _)); refine blk_put (cs := #[.int .i64 0, .string (⟨#[]⟩ : ByteArray)]) ?_ 0 _ rfl; (with_reducible repeat (first | refine blk_drewN ?_ _ | refine blk_drew ?_ | refine blk_alloc ?_ _)); refine blk_far ?_ NB255_256.out _; (with_reducible repeat (first | refine blk_drewN ?_ _ | refine blk_drew ?_ | refine blk_alloc ?_ _)); refine blk_far ?_ NB255_256.out _; (with_reducible repeat (first | refine blk_drewN ?_ _ | refine blk_drew ?_ | refine blk_alloc ?_ _)); exact BK255.out) Try.underlying27 rfl (by kernel_rfl)) rfl ?_
 exact ⟨by first | rfl | (simp [errW_none, errW_some] <;> rfl) | (simp [*, errW_none, errW_some] <;> rfl), by repeat (first | (with_reducible first | exact HB.out | apply below_alloc | apply pw_below_drewN | apply below_drew1 | refine below_set ?_ GE254.out | refine below_set ?_ GE255.out | refine below_set ?_ GE256.out) | exact HB.out)⟩

/-! ### impl_fullSet: function 71 -/
def impl_fullSet.f (a0 : Int) : Option (Int) := if 0 ≤ a0 then (some (wrap64 ((shl .i64 1 a0) - 1))) else (none)
set_option maxHeartbeats 8000000 in
set_option maxRecDepth 100000 in
theorem impl_fullSet.calls (a0 : Int) (r : Int) (w : World) (h : impl_fullSet.f a0 = some r) :
  Calls Try.prog 71 #[.int .i64 a0] w fun e w' => e = .returned (.int .i64 r) ∧ Drawn0 w w' := by
 have H : (if 0 ≤ a0 then (some (wrap64 ((shl .i64 1 a0) - 1))) else (none)) = some r := h
 clear h
 by_cases c2 : 0 ≤ a0
 ·rw [if_pos c2] at H
  have c2b0 := eq_true c2
  have c2b1 : decide (0 ≤ a0) = true := decide_eq_true c2
  clear c2
  obtain ⟨ji3, hji3⟩ : ∃ j_ : Int, (shl .i64 1 a0) = j_ := ⟨_, rfl⟩
  replace H : (some (wrap64 ((ji3) - 1))) = some r := by first | (rw [hji3] at H; exact H) | (simp only [hji3] at H ⊢; exact H)
  have hji3_ : (IntKind.i64.wrap (1 * 2 ^ min a0.toNat 64)) = ji3 := hji3
  have hji3z : a0 ≤ 64 → (IntKind.i64.wrap (1 * 2 ^ a0.toNat)) = ji3 := shl_small hji3
  have hji3u : (IntKind.i64.wrap (2 ^ min a0.toNat 64)) = ji3 := by have h_ := hji3_; rw [Int.one_mul] at h_; exact h_
  have hji3v : a0 ≤ 64 → (IntKind.i64.wrap (2 ^ a0.toNat)) = ji3 := fun hle_ => by have h_ := hji3z hle_; rw [Int.one_mul] at h_; exact h_
  have hji3y : (wrap64 (1 * 2 ^ min a0.toNat 64)) = ji3 := (i64_w _).symm.trans hji3_
  have hji3x : a0 ≤ 64 → (wrap64 (1 * 2 ^ a0.toNat)) = ji3 := fun h_ => (i64_w _).symm.trans (hji3z h_)
  obtain rfl := Option.some.inj H
  go_enter Try.func71, Try.ntmps71
  go_wp2
  go_ret
  exact ⟨by first | rfl | (simp; done) | (simp only [← hji3] <;> (first | rfl | simp)) | (simp [*]; done), by repeat (first | exact Drawn0.refl _ | apply Drawn0.step)⟩
 ·rw [if_neg c2] at H
  exact absurd H (by simp)

end Go.Proofs.Ytiimkifkakdalaa.P
