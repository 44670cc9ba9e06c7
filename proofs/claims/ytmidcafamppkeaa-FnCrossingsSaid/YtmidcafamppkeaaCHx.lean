/- Order signs of at most six elements have as many hull edges as extreme elements. Conditions: order signs. -/
import Derived.Test.YtmidcafamppkeaaCSix
import Derived.Test.YtmidcafamppkeaaCExt
import Derived.Test.YtmidcafamppkeaaCHullE
import Derived.Test.YtmidcafamppkeaaCPairs
namespace Go.Proofs.Ytmidcafamppkeaa.P
open Go.RowKit Go.Proofs.YtmidcafamppkeaaW.PrintWords Go.Proofs.YtmidcafamppkeaaW.PrintLast
set_option linter.unusedVariables false
set_option linter.unusedSimpArgs false

/-! ### signs that are all the same, told by a mask -/
def mkM : List (Nat × Bool) → Nat
  | [] => 0
  | e :: l => 2 ^ e.1 ||| mkM l
def mkV : List (Nat × Bool) → Nat
  | [] => 0
  | e :: l => (if e.2 = true then 2 ^ e.1 else 0) ||| mkV l
theorem mk_m : ∀ (L : List (Nat × Bool)) (j : Nat), (mkM L).testBit j = true ↔ ∃ e ∈ L, e.1 = j
  | [], j => by simp [mkM]
  | e :: l, j => by
    unfold mkM
    rw [Nat.testBit_or, Nat.testBit_two_pow, Bool.or_eq_true, decide_eq_true_eq, mk_m l j]
    constructor
    · rintro (h | ⟨d, hd, h⟩)
      · exact ⟨e, by simp, h⟩
      · exact ⟨d, by simp [hd], h⟩
    · rintro ⟨d, hd, h⟩
      rcases List.mem_cons.mp hd with rfl | hd
      · exact .inl h
      · exact .inr ⟨d, hd, h⟩
theorem mk_v : ∀ (L : List (Nat × Bool)) (j : Nat), (mkV L).testBit j = true ↔ ∃ e ∈ L, e.1 = j ∧ e.2 = true
  | [], j => by simp [mkV]
  | e :: l, j => by
    unfold mkV
    rw [Nat.testBit_or, Bool.or_eq_true, mk_v l j]
    have h0 : (if e.2 = true then 2 ^ e.1 else 0).testBit j = true ↔ e.1 = j ∧ e.2 = true := by
      by_cases h : e.2 = true
      · rw [if_pos h, Nat.testBit_two_pow, decide_eq_true_eq]; simp [h]
      · rw [if_neg h, Nat.zero_testBit]; simp [h]
    rw [h0]
    constructor
    · rintro (h | ⟨d, hd, h⟩)
      · exact ⟨e, by simp, h⟩
      · exact ⟨d, by simp [hd], h⟩
    · rintro ⟨d, hd, h⟩
      rcases List.mem_cons.mp hd with rfl | hd
      · exact .inl h
      · exact .inr ⟨d, hd, h⟩
theorem mk_eq (X : Nat) (L : List (Nat × Bool)) (hn : ∀ e ∈ L, ∀ d ∈ L, e.1 = d.1 → e.2 = d.2) : Nat.land X (mkM L) = mkV L ↔ ∀ e ∈ L, X.testBit e.1 = e.2 := by
  show X &&& mkM L = mkV L ↔ _
  constructor
  · intro h e he
    have h1 : (X &&& mkM L).testBit e.1 = (mkV L).testBit e.1 := by rw [h]
    rw [Nat.testBit_and, (mk_m L e.1).mpr ⟨e, he, rfl⟩, Bool.and_true] at h1
    rw [h1, Bool.eq_iff_iff, mk_v]
    constructor
    · rintro ⟨d, hd, h2, h3⟩; rw [← hn d hd e he h2]; exact h3
    · intro h2; exact ⟨e, he, rfl, h2⟩
  · intro h
    apply Nat.eq_of_testBit_eq
    intro j
    rw [Nat.testBit_and, Bool.eq_iff_iff, Bool.and_eq_true, mk_m, mk_v]
    constructor
    · rintro ⟨h1, e, he, rfl⟩; exact ⟨e, he, rfl, by rw [← h e he]; exact h1⟩
    · rintro ⟨e, he, rfl, h2⟩; exact ⟨by rw [h e he]; exact h2, e, he, rfl⟩
def mkT (L : List (Nat × Bool)) : Nat × Nat × Nat := (mkM L, mkV L, mkV (L.map fun e => (e.1, !e.2)))
theorem mk_flip : ∀ L : List (Nat × Bool), mkM (L.map fun e => (e.1, !e.2)) = mkM L
  | [] => rfl
  | e :: l => by rw [List.map_cons, mkM, mkM, mk_flip l]
def hm (c : Nat) (t : Nat × Nat × Nat) : Bool := cond (Nat.beq (Nat.land c t.1) t.2.1) true (Nat.beq (Nat.land c t.1) t.2.2)
theorem hm_iff (X : Nat) (L : List (Nat × Bool)) (hn : ∀ e ∈ L, ∀ d ∈ L, e.1 = d.1 → e.2 = d.2) : hm X (mkT L) = true ↔ (∀ e ∈ L, X.testBit e.1 = e.2) ∨ (∀ e ∈ L, X.testBit e.1 = !e.2) := by
  have h2 := mk_eq X (L.map fun e => (e.1, !e.2)) (by
    intro e he d hd h
    obtain ⟨e', he', rfl⟩ := List.mem_map.mp he
    obtain ⟨d', hd', rfl⟩ := List.mem_map.mp hd
    simp only; rw [hn e' he' d' hd' h])
  rw [mk_flip] at h2
  have h3 : (∀ e ∈ (L.map fun e => (e.1, !e.2)), X.testBit e.1 = e.2) ↔ ∀ e ∈ L, X.testBit e.1 = !e.2 := by
    constructor
    · intro h e he; exact h (e.1, !e.2) (List.mem_map.mpr ⟨e, he, rfl⟩)
    · intro h e he
      obtain ⟨d, hd, rfl⟩ := List.mem_map.mp he
      exact h d hd
  rw [h3] at h2
  rw [← mk_eq X L hn, ← h2]
  unfold hm mkT
  cases h : Nat.beq (Nat.land X (mkM L)) (mkV L) with
  | true => simp only [cond_true, true_iff]; exact .inl (Nat.eq_of_beq_eq_true h)
  | false =>
    simp only [cond_false, Nat.beq_eq]
    have := Nat.ne_of_beq_eq_false h
    constructor
    · exact .inr
    · rintro (h | h)
      · exact absurd h this
      · exact h
/-! ### hull edges and extreme elements by masks -/
def hxL (n i j : Nat) : List (Nat × Bool) := ((List.range n).filter fun k => decide (k ≠ i) && decide (k ≠ j)).map fun k => cPos n i j k
def hxI (n p : Nat) (t : Nat × Nat × Nat) : List (Nat × Bool) := [cPos n p t.1 t.2.1, cPos n p t.2.1 t.2.2, cPos n p t.2.2 t.1, cPos n t.1 t.2.1 t.2.2]
def hxT (n p : Nat) : List (Nat × Nat × Nat) := (cTrips n).filter fun t => decide (p ≠ t.1) && decide (p ≠ t.2.1) && decide (p ≠ t.2.2)
def hxH (n : Nat) : List (Nat × Nat × Nat) := (List.range' 0 (cPairs n).length).map fun q => mkT (hxL n ((cPairs n).getD q (0, 0)).1 ((cPairs n).getD q (0, 0)).2)
def hxE (n : Nat) : List (List (Nat × Nat × Nat)) := (List.range' 0 n).map fun p => (hxT n p).map fun t => mkT (hxI n p t)
def hmC (c : Nat) : List (Nat × Nat × Nat) → Nat
  | [] => 0
  | t :: l => Nat.add (cond (hm c t) 1 0) (hmC c l)
def hmA (c : Nat) : List (Nat × Nat × Nat) → Bool
  | [] => false
  | t :: l => cond (hm c t) true (hmA c l)
def hmE (c : Nat) : List (List (Nat × Nat × Nat)) → Nat
  | [] => 0
  | t :: l => Nat.add (cond (hmA c t) 0 1) (hmE c l)
def hxP (n c : Nat) : Bool := Nat.beq (hmC c (hxH n)) (hmE c (hxE n))
def hxH3 : List (Nat × Nat × Nat) := [(1, 0, 1), (1, 1, 0), (1, 0, 1)]
def hxE3 : List (List (Nat × Nat × Nat)) := [[], [], []]
def hxP3 (c : Nat) : Bool := Nat.beq (Nat.add (cond (cond (Nat.beq (Nat.land c 1) 0) true (Nat.beq (Nat.land c 1) 1)) 1 0) (Nat.add (cond (cond (Nat.beq (Nat.land c 1) 1) true (Nat.beq (Nat.land c 1) 0)) 1 0) (Nat.add (cond (cond (Nat.beq (Nat.land c 1) 0) true (Nat.beq (Nat.land c 1) 1)) 1 0) (0)))) (Nat.add (cond (false) 0 1) (Nat.add (cond (false) 0 1) (Nat.add (cond (false) 0 1) (0))))
theorem hx_t3 : hxH 3 = hxH3 ∧ hxE 3 = hxE3 := by decide +kernel
theorem hx_p3 : hxP 3 = hxP3 := by
  funext c
  unfold hxP
  rw [hx_t3.1, hx_t3.2]
  rfl
theorem hx_r3 : sxRun (hxP 3) sxD3 0 = true := by
  rw [hx_p3]
  decide +kernel
def hxH4 : List (Nat × Nat × Nat) := [(3, 0, 3), (5, 1, 4), (6, 6, 0), (9, 0, 9), (10, 8, 2), (12, 0, 12)]
def hxE4 : List (List (Nat × Nat × Nat)) := [[(15, 2, 13)], [(15, 1, 14)], [(15, 8, 7)], [(15, 4, 11)]]
def hxP4 (c : Nat) : Bool := Nat.beq (Nat.add (cond (cond (Nat.beq (Nat.land c 3) 0) true (Nat.beq (Nat.land c 3) 3)) 1 0) (Nat.add (cond (cond (Nat.beq (Nat.land c 5) 1) true (Nat.beq (Nat.land c 5) 4)) 1 0) (Nat.add (cond (cond (Nat.beq (Nat.land c 6) 6) true (Nat.beq (Nat.land c 6) 0)) 1 0) (Nat.add (cond (cond (Nat.beq (Nat.land c 9) 0) true (Nat.beq (Nat.land c 9) 9)) 1 0) (Nat.add (cond (cond (Nat.beq (Nat.land c 10) 8) true (Nat.beq (Nat.land c 10) 2)) 1 0) (Nat.add (cond (cond (Nat.beq (Nat.land c 12) 0) true (Nat.beq (Nat.land c 12) 12)) 1 0) (0))))))) (Nat.add (cond (cond (cond (Nat.beq (Nat.land c 15) 2) true (Nat.beq (Nat.land c 15) 13)) true (false)) 0 1) (Nat.add (cond (cond (cond (Nat.beq (Nat.land c 15) 1) true (Nat.beq (Nat.land c 15) 14)) true (false)) 0 1) (Nat.add (cond (cond (cond (Nat.beq (Nat.land c 15) 8) true (Nat.beq (Nat.land c 15) 7)) true (false)) 0 1) (Nat.add (cond (cond (cond (Nat.beq (Nat.land c 15) 4) true (Nat.beq (Nat.land c 15) 11)) true (false)) 0 1) (0)))))
theorem hx_t4 : hxH 4 = hxH4 ∧ hxE 4 = hxE4 := by decide +kernel
theorem hx_p4 : hxP 4 = hxP4 := by
  funext c
  unfold hxP
  rw [hx_t4.1, hx_t4.2]
  rfl
theorem hx_r4 : sxRun (hxP 4) sxD4 0 = true := by
  rw [hx_p4]
  decide +kernel
def hxH5 : List (Nat × Nat × Nat) := [(7, 0, 7), (25, 1, 24), (42, 10, 32), (52, 52, 0), (193, 0, 193), (322, 64, 258), (388, 384, 4), (584, 0, 584), (656, 512, 144), (800, 0, 800)]
def hxE5 : List (List (Nat × Nat × Nat)) := [[(75, 2, 73), (149, 4, 145), (294, 4, 290), (568, 16, 552)], [(75, 1, 74), (149, 1, 148), (294, 2, 292), (960, 128, 832)], [(75, 64, 11), (149, 128, 21), (568, 8, 560), (960, 64, 896)], [(75, 8, 67), (294, 256, 38), (568, 512, 56), (960, 512, 448)], [(149, 16, 133), (294, 32, 262), (568, 32, 536), (960, 256, 704)]]
def hxP5 (c : Nat) : Bool := Nat.beq (Nat.add (cond (cond (Nat.beq (Nat.land c 7) 0) true (Nat.beq (Nat.land c 7) 7)) 1 0) (Nat.add (cond (cond (Nat.beq (Nat.land c 25) 1) true (Nat.beq (Nat.land c 25) 24)) 1 0) (Nat.add (cond (cond (Nat.beq (Nat.land c 42) 10) true (Nat.beq (Nat.land c 42) 32)) 1 0) (Nat.add (cond (cond (Nat.beq (Nat.land c 52) 52) true (Nat.beq (Nat.land c 52) 0)) 1 0) (Nat.add (cond (cond (Nat.beq (Nat.land c 193) 0) true (Nat.beq (Nat.land c 193) 193)) 1 0) (Nat.add (cond (cond (Nat.beq (Nat.land c 322) 64) true (Nat.beq (Nat.land c 322) 258)) 1 0) (Nat.add (cond (cond (Nat.beq (Nat.land c 388) 384) true (Nat.beq (Nat.land c 388) 4)) 1 0) (Nat.add (cond (cond (Nat.beq (Nat.land c 584) 0) true (Nat.beq (Nat.land c 584) 584)) 1 0) (Nat.add (cond (cond (Nat.beq (Nat.land c 656) 512) true (Nat.beq (Nat.land c 656) 144)) 1 0) (Nat.add (cond (cond (Nat.beq (Nat.land c 800) 0) true (Nat.beq (Nat.land c 800) 800)) 1 0) (0))))))))))) (Nat.add (cond (cond (cond (Nat.beq (Nat.land c 75) 2) true (Nat.beq (Nat.land c 75) 73)) true (cond (cond (Nat.beq (Nat.land c 149) 4) true (Nat.beq (Nat.land c 149) 145)) true (cond (cond (Nat.beq (Nat.land c 294) 4) true (Nat.beq (Nat.land c 294) 290)) true (cond (cond (Nat.beq (Nat.land c 568) 16) true (Nat.beq (Nat.land c 568) 552)) true (false))))) 0 1) (Nat.add (cond (cond (cond (Nat.beq (Nat.land c 75) 1) true (Nat.beq (Nat.land c 75) 74)) true (cond (cond (Nat.beq (Nat.land c 149) 1) true (Nat.beq (Nat.land c 149) 148)) true (cond (cond (Nat.beq (Nat.land c 294) 2) true (Nat.beq (Nat.land c 294) 292)) true (cond (cond (Nat.beq (Nat.land c 960) 128) true (Nat.beq (Nat.land c 960) 832)) true (false))))) 0 1) (Nat.add (cond (cond (cond (Nat.beq (Nat.land c 75) 64) true (Nat.beq (Nat.land c 75) 11)) true (cond (cond (Nat.beq (Nat.land c 149) 128) true (Nat.beq (Nat.land c 149) 21)) true (cond (cond (Nat.beq (Nat.land c 568) 8) true (Nat.beq (Nat.land c 568) 560)) true (cond (cond (Nat.beq (Nat.land c 960) 64) true (Nat.beq (Nat.land c 960) 896)) true (false))))) 0 1) (Nat.add (cond (cond (cond (Nat.beq (Nat.land c 75) 8) true (Nat.beq (Nat.land c 75) 67)) true (cond (cond (Nat.beq (Nat.land c 294) 256) true (Nat.beq (Nat.land c 294) 38)) true (cond (cond (Nat.beq (Nat.land c 568) 512) true (Nat.beq (Nat.land c 568) 56)) true (cond (cond (Nat.beq (Nat.land c 960) 512) true (Nat.beq (Nat.land c 960) 448)) true (false))))) 0 1) (Nat.add (cond (cond (cond (Nat.beq (Nat.land c 149) 16) true (Nat.beq (Nat.land c 149) 133)) true (cond (cond (Nat.beq (Nat.land c 294) 32) true (Nat.beq (Nat.land c 294) 262)) true (cond (cond (Nat.beq (Nat.land c 568) 32) true (Nat.beq (Nat.land c 568) 536)) true (cond (cond (Nat.beq (Nat.land c 960) 256) true (Nat.beq (Nat.land c 960) 704)) true (false))))) 0 1) (0))))))
theorem hx_t5 : hxH 5 = hxH5 ∧ hxE 5 = hxE5 := by decide +kernel
theorem hx_p5 : hxP 5 = hxP5 := by
  funext c
  unfold hxP
  rw [hx_t5.1, hx_t5.2]
  rfl
theorem hx_r5 : sxRun (hxP 5) sxD5 0 = true := by
  rw [hx_p5]
  decide +kernel
def hxH6 : List (Nat × Nat × Nat) := [(15, 0, 15), (113, 1, 112), (402, 18, 384), (676, 164, 512), (840, 840, 0), (7169, 0, 7169), (25602, 1024, 24578), (43012, 10240, 32772), (53256, 53248, 8), (197648, 0, 197648), (329760, 65536, 264224), (397376, 393216, 4160), (598144, 0, 598144), (672000, 524288, 147712), (819712, 0, 819712)]
def hxE6 : List (List (Nat × Nat × Nat)) := [[(1043, 2, 1041), (2085, 4, 2081), (4169, 8, 4161), (8326, 4, 8322), (16650, 8, 16642), (33292, 8, 33284), (65712, 32, 65680), (131408, 64, 131344), (262752, 64, 262688), (525184, 256, 524928)], [(1043, 1, 1042), (2085, 1, 2084), (4169, 1, 4168), (8326, 2, 8324), (16650, 2, 16648), (33292, 4, 33288), (76800, 2048, 74752), (152576, 4096, 148480), (301056, 4096, 296960), (581632, 16384, 565248)], [(1043, 1024, 19), (2085, 2048, 37), (4169, 4096, 73), (65712, 16, 65696), (131408, 16, 131392), (262752, 32, 262720), (76800, 1024, 75776), (152576, 1024, 151552), (301056, 2048, 299008), (983040, 131072, 851968)], [(1043, 16, 1027), (8326, 8192, 134), (16650, 16384, 266), (65712, 65536, 176), (131408, 131072, 336), (525184, 128, 525056), (76800, 65536, 11264), (152576, 131072, 21504), (581632, 8192, 573440), (983040, 65536, 917504)], [(2085, 32, 2053), (8326, 128, 8198), (33292, 32768, 524), (65712, 128, 65584), (262752, 262144, 608), (525184, 524288, 896), (76800, 8192, 68608), (301056, 262144, 38912), (581632, 524288, 57344), (983040, 524288, 458752)], [(4169, 64, 4105), (16650, 256, 16394), (33292, 512, 32780), (131408, 256, 131152), (262752, 512, 262240), (525184, 512, 524672), (152576, 16384, 136192), (301056, 32768, 268288), (581632, 32768, 548864), (983040, 262144, 720896)]]
def hxP6 (c : Nat) : Bool := Nat.beq (Nat.add (cond (cond (Nat.beq (Nat.land c 15) 0) true (Nat.beq (Nat.land c 15) 15)) 1 0) (Nat.add (cond (cond (Nat.beq (Nat.land c 113) 1) true (Nat.beq (Nat.land c 113) 112)) 1 0) (Nat.add (cond (cond (Nat.beq (Nat.land c 402) 18) true (Nat.beq (Nat.land c 402) 384)) 1 0) (Nat.add (cond (cond (Nat.beq (Nat.land c 676) 164) true (Nat.beq (Nat.land c 676) 512)) 1 0) (Nat.add (cond (cond (Nat.beq (Nat.land c 840) 840) true (Nat.beq (Nat.land c 840) 0)) 1 0) (Nat.add (cond (cond (Nat.beq (Nat.land c 7169) 0) true (Nat.beq (Nat.land c 7169) 7169)) 1 0) (Nat.add (cond (cond (Nat.beq (Nat.land c 25602) 1024) true (Nat.beq (Nat.land c 25602) 24578)) 1 0) (Nat.add (cond (cond (Nat.beq (Nat.land c 43012) 10240) true (Nat.beq (Nat.land c 43012) 32772)) 1 0) (Nat.add (cond (cond (Nat.beq (Nat.land c 53256) 53248) true (Nat.beq (Nat.land c 53256) 8)) 1 0) (Nat.add (cond (cond (Nat.beq (Nat.land c 197648) 0) true (Nat.beq (Nat.land c 197648) 197648)) 1 0) (Nat.add (cond (cond (Nat.beq (Nat.land c 329760) 65536) true (Nat.beq (Nat.land c 329760) 264224)) 1 0) (Nat.add (cond (cond (Nat.beq (Nat.land c 397376) 393216) true (Nat.beq (Nat.land c 397376) 4160)) 1 0) (Nat.add (cond (cond (Nat.beq (Nat.land c 598144) 0) true (Nat.beq (Nat.land c 598144) 598144)) 1 0) (Nat.add (cond (cond (Nat.beq (Nat.land c 672000) 524288) true (Nat.beq (Nat.land c 672000) 147712)) 1 0) (Nat.add (cond (cond (Nat.beq (Nat.land c 819712) 0) true (Nat.beq (Nat.land c 819712) 819712)) 1 0) (0)))))))))))))))) (Nat.add (cond (cond (cond (Nat.beq (Nat.land c 1043) 2) true (Nat.beq (Nat.land c 1043) 1041)) true (cond (cond (Nat.beq (Nat.land c 2085) 4) true (Nat.beq (Nat.land c 2085) 2081)) true (cond (cond (Nat.beq (Nat.land c 4169) 8) true (Nat.beq (Nat.land c 4169) 4161)) true (cond (cond (Nat.beq (Nat.land c 8326) 4) true (Nat.beq (Nat.land c 8326) 8322)) true (cond (cond (Nat.beq (Nat.land c 16650) 8) true (Nat.beq (Nat.land c 16650) 16642)) true (cond (cond (Nat.beq (Nat.land c 33292) 8) true (Nat.beq (Nat.land c 33292) 33284)) true (cond (cond (Nat.beq (Nat.land c 65712) 32) true (Nat.beq (Nat.land c 65712) 65680)) true (cond (cond (Nat.beq (Nat.land c 131408) 64) true (Nat.beq (Nat.land c 131408) 131344)) true (cond (cond (Nat.beq (Nat.land c 262752) 64) true (Nat.beq (Nat.land c 262752) 262688)) true (cond (cond (Nat.beq (Nat.land c 525184) 256) true (Nat.beq (Nat.land c 525184) 524928)) true (false))))))))))) 0 1) (Nat.add (cond (cond (cond (Nat.beq (Nat.land c 1043) 1) true (Nat.beq (Nat.land c 1043) 1042)) true (cond (cond (Nat.beq (Nat.land c 2085) 1) true (Nat.beq (Nat.land c 2085) 2084)) true (cond (cond (Nat.beq (Nat.land c 4169) 1) true (Nat.beq (Nat.land c 4169) 4168)) true (cond (cond (Nat.beq (Nat.land c 8326) 2) true (Nat.beq (Nat.land c 8326) 8324)) true (cond (cond (Nat.beq (Nat.land c 16650) 2) true (Nat.beq (Nat.land c 16650) 16648)) true (cond (cond (Nat.beq (Nat.land c 33292) 4) true (Nat.beq (Nat.land c 33292) 33288)) true (cond (cond (Nat.beq (Nat.land c 76800) 2048) true (Nat.beq (Nat.land c 76800) 74752)) true (cond (cond (Nat.beq (Nat.land c 152576) 4096) true (Nat.beq (Nat.land c 152576) 148480)) true (cond (cond (Nat.beq (Nat.land c 301056) 4096) true (Nat.beq (Nat.land c 301056) 296960)) true (cond (cond (Nat.beq (Nat.land c 581632) 16384) true (Nat.beq (Nat.land c 581632) 565248)) true (false))))))))))) 0 1) (Nat.add (cond (cond (cond (Nat.beq (Nat.land c 1043) 1024) true (Nat.beq (Nat.land c 1043) 19)) true (cond (cond (Nat.beq (Nat.land c 2085) 2048) true (Nat.beq (Nat.land c 2085) 37)) true (cond (cond (Nat.beq (Nat.land c 4169) 4096) true (Nat.beq (Nat.land c 4169) 73)) true (cond (cond (Nat.beq (Nat.land c 65712) 16) true (Nat.beq (Nat.land c 65712) 65696)) true (cond (cond (Nat.beq (Nat.land c 131408) 16) true (Nat.beq (Nat.land c 131408) 131392)) true (cond (cond (Nat.beq (Nat.land c 262752) 32) true (Nat.beq (Nat.land c 262752) 262720)) true (cond (cond (Nat.beq (Nat.land c 76800) 1024) true (Nat.beq (Nat.land c 76800) 75776)) true (cond (cond (Nat.beq (Nat.land c 152576) 1024) true (Nat.beq (Nat.land c 152576) 151552)) true (cond (cond (Nat.beq (Nat.land c 301056) 2048) true (Nat.beq (Nat.land c 301056) 299008)) true (cond (cond (Nat.beq (Nat.land c 983040) 131072) true (Nat.beq (Nat.land c 983040) 851968)) true (false))))))))))) 0 1) (Nat.add (cond (cond (cond (Nat.beq (Nat.land c 1043) 16) true (Nat.beq (Nat.land c 1043) 1027)) true (cond (cond (Nat.beq (Nat.land c 8326) 8192) true (Nat.beq (Nat.land c 8326) 134)) true (cond (cond (Nat.beq (Nat.land c 16650) 16384) true (Nat.beq (Nat.land c 16650) 266)) true (cond (cond (Nat.beq (Nat.land c 65712) 65536) true (Nat.beq (Nat.land c 65712) 176)) true (cond (cond (Nat.beq (Nat.land c 131408) 131072) true (Nat.beq (Nat.land c 131408) 336)) true (cond (cond (Nat.beq (Nat.land c 525184) 128) true (Nat.beq (Nat.land c 525184) 525056)) true (cond (cond (Nat.beq (Nat.land c 76800) 65536) true (Nat.beq (Nat.land c 76800) 11264)) true (cond (cond (Nat.beq (Nat.land c 152576) 131072) true (Nat.beq (Nat.land c 152576) 21504)) true (cond (cond (Nat.beq (Nat.land c 581632) 8192) true (Nat.beq (Nat.land c 581632) 573440)) true (cond (cond (Nat.beq (Nat.land c 983040) 65536) true (Nat.beq (Nat.land c 983040) 917504)) true (false))))))))))) 0 1) (Nat.add (cond (cond (cond (Nat.beq (Nat.land c 2085) 32) true (Nat.beq (Nat.land c 2085) 2053)) true (cond (cond (Nat.beq (Nat.land c 8326) 128) true (Nat.beq (Nat.land c 8326) 8198)) true (cond (cond (Nat.beq (Nat.land c 33292) 32768) true (Nat.beq (Nat.land c 33292) 524)) true (cond (cond (Nat.beq (Nat.land c 65712) 128) true (Nat.beq (Nat.land c 65712) 65584)) true (cond (cond (Nat.beq (Nat.land c 262752) 262144) true (Nat.beq (Nat.land c 262752) 608)) true (cond (cond (Nat.beq (Nat.land c 525184) 524288) true (Nat.beq (Nat.land c 525184) 896)) true (cond (cond (Nat.beq (Nat.land c 76800) 8192) true (Nat.beq (Nat.land c 76800) 68608)) true (cond (cond (Nat.beq (Nat.land c 301056) 262144) true (Nat.beq (Nat.land c 301056) 38912)) true (cond (cond (Nat.beq (Nat.land c 581632) 524288) true (Nat.beq (Nat.land c 581632) 57344)) true (cond (cond (Nat.beq (Nat.land c 983040) 524288) true (Nat.beq (Nat.land c 983040) 458752)) true (false))))))))))) 0 1) (Nat.add (cond (cond (cond (Nat.beq (Nat.land c 4169) 64) true (Nat.beq (Nat.land c 4169) 4105)) true (cond (cond (Nat.beq (Nat.land c 16650) 256) true (Nat.beq (Nat.land c 16650) 16394)) true (cond (cond (Nat.beq (Nat.land c 33292) 512) true (Nat.beq (Nat.land c 33292) 32780)) true (cond (cond (Nat.beq (Nat.land c 131408) 256) true (Nat.beq (Nat.land c 131408) 131152)) true (cond (cond (Nat.beq (Nat.land c 262752) 512) true (Nat.beq (Nat.land c 262752) 262240)) true (cond (cond (Nat.beq (Nat.land c 525184) 512) true (Nat.beq (Nat.land c 525184) 524672)) true (cond (cond (Nat.beq (Nat.land c 152576) 16384) true (Nat.beq (Nat.land c 152576) 136192)) true (cond (cond (Nat.beq (Nat.land c 301056) 32768) true (Nat.beq (Nat.land c 301056) 268288)) true (cond (cond (Nat.beq (Nat.land c 581632) 32768) true (Nat.beq (Nat.land c 581632) 548864)) true (cond (cond (Nat.beq (Nat.land c 983040) 262144) true (Nat.beq (Nat.land c 983040) 720896)) true (false))))))))))) 0 1) (0)))))))
theorem hx_t6 : hxH 6 = hxH6 ∧ hxE 6 = hxE6 := by decide +kernel
theorem hx_p6 : hxP 6 = hxP6 := by
  funext c
  unfold hxP
  rw [hx_t6.1, hx_t6.2]
  rfl
theorem hx_r6 : sxRun (hxP 6) sxD6 0 = true := by
  rw [hx_p6]
  decide +kernel
theorem hm_c (c : Nat) (F : Nat → Nat × Nat × Nat) : ∀ l : List Nat, hmC c (l.map F) = (l.map fun q => if hm c (F q) = true then 1 else 0).sum
  | [] => rfl
  | q :: l => by
    rw [List.map_cons, hmC, hm_c c F l, List.map_cons, List.sum_cons]
    cases hm c (F q) <;> rfl
theorem hm_a (c : Nat) (F : Nat × Nat × Nat → Nat × Nat × Nat) : ∀ l : List (Nat × Nat × Nat), hmA c (l.map F) = l.any fun t => hm c (F t)
  | [] => rfl
  | t :: l => by
    rw [List.map_cons, hmA, hm_a c F l, List.any_cons]
    cases hm c (F t) <;> rfl
theorem hm_e (c : Nat) (F : Nat → List (Nat × Nat × Nat)) : ∀ l : List Nat, hmE c (l.map F) = (l.map fun p => if hmA c (F p) = true then 0 else 1).sum
  | [] => rfl
  | p :: l => by
    rw [List.map_cons, hmE, hm_e c F l, List.map_cons, List.sum_cons]
    cases hmA c (F p) <;> rfl
theorem hx_swap (n a b c : Nat) (h : cD3 n a b c) : cPos n b a c = ((cPos n a b c).1, !(cPos n a b c).2) := by
  simp only [cD3] at h
  unfold cPos
  by_cases h1 : a < b
  · rw [if_pos h1, if_neg (show ¬ b < a by omega)]
    by_cases h2 : b < c
    · rw [if_pos h2, if_pos h2]; rfl
    · rw [if_neg h2, if_neg h2]
      by_cases h3 : a < c
      · rw [if_pos h3, if_pos h3]; rfl
      · rw [if_neg h3, if_neg h3]; rfl
  · rw [if_neg h1, if_pos (show b < a by omega)]
    by_cases h2 : a < c
    · rw [if_pos h2, if_pos h2]; rfl
    · rw [if_neg h2, if_neg h2]
      by_cases h3 : b < c
      · rw [if_pos h3, if_pos h3]; rfl
      · rw [if_neg h3, if_neg h3]; rfl
theorem hx_at_swap (n : Nat) (s : ByteArray) (a b c : Nat) (h : cD3 n a b c) : cAt n s b a c = - cAt n s a b c := by
  unfold cAt
  rw [hx_swap n a b c h]
  unfold cSg
  cases (cPos n a b c).2 <;> simp <;> split <;> rfl
theorem hx_plus (b neg : Bool) : sxV b neg = 1 ↔ b = neg := by cases b <;> cases neg <;> decide
theorem hx_minus (b neg : Bool) : sxV b neg = -1 ↔ b = !neg := by cases b <;> cases neg <;> decide
theorem hx_nodup : ∀ n ∈ [3, 4, 5, 6], (∀ i ∈ List.range n, ∀ j ∈ List.range n, i ≠ j → ∀ e ∈ hxL n i j, ∀ d ∈ hxL n i j, e.1 = d.1 → e.2 = d.2) ∧ ∀ p ∈ List.range n, ∀ t ∈ hxT n p, ∀ e ∈ hxI n p t, ∀ d ∈ hxI n p t, e.1 = d.1 → e.2 = d.2 := by decide +kernel
theorem hx_sum0 (l : List Nat) (f : Nat → Nat) : (l.map f).sum = 0 ↔ ∀ k ∈ l, f k = 0 := by
  induction l with
  | nil => simp
  | cons a l ih => rw [List.map_cons, List.sum_cons]; simp only [List.mem_cons, forall_eq_or_imp, Nat.add_eq_zero_iff, ih]
theorem hx_left (n : Nat) (s : ByteArray) (i j : Nat) : cLeft n s i j = 0 ↔ ∀ k, k < n → k ≠ i → k ≠ j → cAt n s i j k = -1 := by
  unfold cLeft cLs
  rw [hx_sum0]
  simp only [List.mem_range'_1, Nat.zero_le, true_and, Nat.zero_add]
  constructor
  · intro h k hk hi hj
    have := h k hk
    unfold cLb at this
    rw [if_neg (by omega)] at this
    rcases c_at_pm n s i j k with h1 | h1
    · rw [if_pos h1] at this; omega
    · exact h1
  · intro h k hk
    unfold cLb
    by_cases hc : k = i ∨ k = j
    · rw [if_pos hc]
    · rw [if_neg hc, if_neg]
      rw [h k hk (by omega) (by omega)]; decide
section
variable (n : Nat) (h3 : 3 ≤ n) (h6 : n ≤ 6) (s : ByteArray)
include h3 h6
theorem hx_edge (i j : Nat) (hi : i < n) (hj : j < n) (hij : i ≠ j) : cHe n s (i, j) ↔ hm (sxCode n s) (mkT (hxL n i j)) = true := by
  have hn : n ∈ [3, 4, 5, 6] := by simp; omega
  rw [hm_iff _ _ ((hx_nodup n hn).1 i (by simpa using hi) j (by simpa using hj) hij)]
  have hA := fun k (hk : k < n) (h1 : k ≠ i) (h2 : k ≠ j) => sx_at n h3 (by omega) s i j k ⟨hi, hj, hk, hij, Ne.symm h1, Ne.symm h2⟩
  have hS := fun k (hk : k < n) (h1 : k ≠ i) (h2 : k ≠ j) => hx_at_swap n s i j k ⟨hi, hj, hk, hij, Ne.symm h1, Ne.symm h2⟩
  have hm : ∀ P : Nat × Bool → Prop, (∀ e ∈ hxL n i j, P e) ↔ ∀ k, k < n → k ≠ i → k ≠ j → P (cPos n i j k) := by
    intro P
    unfold hxL
    constructor
    · intro h k hk h1 h2
      exact h _ (List.mem_map.mpr ⟨k, List.mem_filter.mpr ⟨by simpa using hk, by simp [h1, h2]⟩, rfl⟩)
    · intro h e he
      obtain ⟨k, hk, rfl⟩ := List.mem_map.mp he
      obtain ⟨hk, hc⟩ := List.mem_filter.mp hk
      simp only [Bool.and_eq_true, decide_eq_true_eq] at hc
      exact h k (by simpa using hk) hc.1 hc.2
  rw [hm, hm]
  unfold cHe
  simp only [hx_left]
  rw [Or.comm]
  constructor
  · rintro (h | h)
    · refine .inl fun k hk h1 h2 => ?_
      have := h k hk h2 h1
      rw [hS k hk h1 h2, hA k hk h1 h2] at this
      exact (hx_plus _ _).mp (by omega)
    · refine .inr fun k hk h1 h2 => ?_
      have := h k hk h1 h2
      rw [hA k hk h1 h2] at this
      exact (hx_minus _ _).mp this
  · rintro (h | h)
    · refine .inl fun k hk h2 h1 => ?_
      rw [hS k hk h1 h2, hA k hk h1 h2, (hx_plus _ _).mpr (h k hk h1 h2)]
    · refine .inr fun k hk h1 h2 => ?_
      rw [hA k hk h1 h2]
      exact (hx_minus _ _).mpr (h k hk h1 h2)
end
/-- An element inside a triangle, told by its circuit. -/
theorem hx_inn_all : ∀ n ∈ [3, 4, 5, 6], ∀ t ∈ cTexts, ∀ p ∈ List.range n, ∀ r ∈ hxT n p, (mx (cOnly (cSp t (p, r.1, r.2.1, r.2.2)).1) (cOnly (cSp t (p, r.1, r.2.1, r.2.2)).2) == (p : Int)) = decide (t.toList = ([43, 45, 45, 45] : List UInt8)) := by decide +kernel
theorem hx_circ (x y z u : Int) (hx : x = 1 ∨ x = -1) (hy : y = 1 ∨ y = -1) (hz : z = 1 ∨ z = -1) (hu : u = 1 ∨ u = -1) : (cCirc x y z u).toList = ([43, 45, 45, 45] : List UInt8) ↔ (u = 1 ∧ y = 1 ∧ z = -1 ∧ x = 1) ∨ (u = -1 ∧ y = -1 ∧ z = 1 ∧ x = -1) := by
  rcases hx with rfl | rfl <;> rcases hy with rfl | rfl <;> rcases hz with rfl | rfl <;> rcases hu with rfl | rfl <;> decide +kernel
section
variable (n : Nat) (h3 : 3 ≤ n) (h6 : n ≤ 6) (s : ByteArray)
include h3 h6
theorem hx_in (p : Nat) (hp : p < n) (t : Nat × Nat × Nat) (ht : t ∈ hxT n p) : cInn n s p t = hm (sxCode n s) (mkT (hxI n p t)) := by
  have hn : n ∈ [3, 4, 5, 6] := by simp; omega
  have hd : cD3 n p t.1 t.2.1 ∧ cD3 n p t.2.1 t.2.2 ∧ cD3 n p t.1 t.2.2 ∧ cD3 n t.1 t.2.1 t.2.2 ∧ cD3 n p t.2.2 t.1 := by
    obtain ⟨h1, h2⟩ := List.mem_filter.mp ht
    simp only [Bool.and_eq_true, decide_eq_true_eq] at h2
    have := (c_trips_all n (c_five n h3 (by omega))).2 t h1
    unfold cD3; omega
  have e0 : cInn n s p t = decide ((cCq n s (p, t.1, t.2.1, t.2.2)).toList = ([43, 45, 45, 45] : List UInt8)) := by
    unfold cInn cIv
    exact hx_inn_all n hn _ (c_text n s _) p (by simpa using hp) t ht
  have ez : cAt n s p t.1 t.2.2 = - cAt n s p t.2.2 t.1 := by
    have h1 := hx_at_swap n s t.2.2 p t.1 (by have := hd.2.2.2.2; unfold cD3 at *; omega)
    have h2 := c_at_cyc n h3 (by omega) s t.2.2 p t.1 (by have := hd.2.2.2.2; unfold cD3 at *; omega)
    rw [h2] at h1; rw [h1]; omega
  have A := sx_at n h3 (by omega) s p t.1 t.2.1 hd.1
  have B := sx_at n h3 (by omega) s p t.2.1 t.2.2 hd.2.1
  have C := sx_at n h3 (by omega) s p t.2.2 t.1 hd.2.2.2.2
  have D := sx_at n h3 (by omega) s t.1 t.2.1 t.2.2 hd.2.2.2.1
  rw [e0, Bool.eq_iff_iff, decide_eq_true_eq, hm_iff _ _ ((hx_nodup n hn).2 p (by simpa using hp) t ht)]
  unfold cCq
  rw [hx_circ _ _ _ _ (c_at_pm _ _ _ _ _) (c_at_pm _ _ _ _ _) (c_at_pm _ _ _ _ _) (c_at_pm _ _ _ _ _)]
  simp only
  rw [ez, A, B, C, D]
  unfold hxI
  simp only [List.mem_cons, List.not_mem_nil, or_false, forall_eq_or_imp, forall_eq]
  have m1 : ∀ b neg, -sxV b neg = -1 ↔ b = neg := fun b neg => by rw [← hx_plus]; omega
  have m2 : ∀ b neg, -sxV b neg = 1 ↔ b = !neg := fun b neg => by rw [← hx_minus]; omega
  simp only [hx_plus, hx_minus, m1, m2]
theorem hx_extreme (p : Nat) (hp : p < n) : cEx n s (2 ^ n - 1) p = !hmA (sxCode n s) ((hxT n p).map fun t => mkT (hxI n p t)) := by
  have hb : ∀ q, q < n → (2 ^ n - 1).testBit q = true := fun q hq => by rw [Nat.testBit_two_pow_sub_one]; exact decide_eq_true hq
  unfold cEx
  rw [hb p hp, Bool.true_and, hm_a]
  congr 1
  unfold cInH hxT
  rw [List.any_filter, Bool.eq_iff_iff, List.any_eq_true, List.any_eq_true]
  have key : ∀ t ∈ cTrips n, cHit n s (2 ^ n - 1) p t = ((decide (p ≠ t.1) && decide (p ≠ t.2.1) && decide (p ≠ t.2.2)) && hm (sxCode n s) (mkT (hxI n p t))) := by
    intro t ht
    have := (c_trips_all n (c_five n h3 (by omega))).2 t ht
    unfold cHit
    rw [hb t.1 (by omega), hb t.2.1 (by omega), hb t.2.2 (by omega)]
    cases hc : (decide (p ≠ t.1) && decide (p ≠ t.2.1) && decide (p ≠ t.2.2)) with
    | false => simp
    | true => rw [hx_in n h3 h6 s p hp t (List.mem_filter.mpr ⟨ht, hc⟩)]; simp
  constructor
  · rintro ⟨t, h1, h2⟩; exact ⟨t, h1, by rw [← key t h1]; exact h2⟩
  · rintro ⟨t, h1, h2⟩; exact ⟨t, h1, by rw [key t h1]; exact h2⟩
end
theorem hx_cs (n : Nat) (s : ByteArray) : cHs n s 0 (cPairs n).length = cSum (fun q => decide (cHe n s ((cPairs n).getD q (0, 0)))) 0 (cPairs n).length := by
  unfold cHs cSum
  simp only [decide_eq_true_eq]
theorem hx_pop (f : Nat → Bool) (E : Nat) : cPop (cSum f 0 E) = ((List.range' 0 E).map fun q => if f q = true then 1 else 0).sum := by
  obtain ⟨h1, h2⟩ := c_sum_lt f E
  rw [c_pop_sum E _ h1]
  unfold cRg
  congr 1
  apply List.map_congr_left
  intro q hq
  rw [h2, decide_eq_true (by simpa using hq), Bool.true_and]
/-- As many hull edges as extreme elements. -/
theorem hx_all (n : Nat) (h3 : 3 ≤ n) (h6 : n ≤ 6) (s : ByteArray) (hA : cAcy (n : Int) s = true) : cPop (cHs n s 0 (cPairs n).length) = cPop (cExt n s (2 ^ n - 1)) := by
  have h := sx_all n h3 h6 s hA hxP hx_r3 hx_r4 hx_r5 hx_r6
  unfold hxP at h
  have h := Nat.eq_of_beq_eq_true h
  unfold hxH hxE at h
  rw [hm_c, hm_e] at h
  unfold cExt
  rw [hx_cs, hx_pop, hx_pop]
  refine Eq.trans (congrArg List.sum (List.map_congr_left fun q hq => ?_)) (h.trans (congrArg List.sum (List.map_congr_left fun p hp => ?_)))
  · have hq : q < (cPairs n).length := by simpa using hq
    have hg := c_pairs_get (n : Int) (by omega) (by omega) ((cPairs n).getD q (0, 0)) (by rw [Int.toNat_natCast]; rw [show (cPairs n).getD q (0, 0) = (cPairs n)[q] by simp [List.getD, hq]]; exact List.getElem_mem hq)
    rw [Int.toNat_natCast] at hg
    have := hx_edge n h3 h6 s ((cPairs n).getD q (0, 0)).1 ((cPairs n).getD q (0, 0)).2 (by omega) (by omega) (by omega)
    simp only [decide_eq_true_eq]
    by_cases hc : cHe n s ((cPairs n).getD q (0, 0))
    · rw [if_pos hc, if_pos (this.mp hc)]
    · rw [if_neg hc, if_neg (fun hh => hc (this.mpr hh))]
  · rw [hx_extreme n h3 h6 s p (by simpa using hp)]
    cases hmA (sxCode n s) ((hxT n p).map fun t => mkT (hxI n p t)) <;> rfl

end Go.Proofs.Ytmidcafamppkeaa.P
