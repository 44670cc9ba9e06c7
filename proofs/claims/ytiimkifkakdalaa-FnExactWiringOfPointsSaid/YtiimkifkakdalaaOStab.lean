/- slices.SortStableFunc over at most twenty rows of numbers, compared by impl.WiringOfPoints' closure (in work): impl.slopes with an end world that only grew. Conditions: none. -/
import Derived.Test.YtiimkifkakdalaaOSortQ
import Derived.Test.YtiimkifkakdalaaP53
import Derived.Shelf.SlSortCmp.Insertion1
namespace Go.Proofs.Ytiimkifkakdalaa.P
open Go.RowKit Go.Proofs.YtiimkifkakdalaaW.PrintWords Go.Proofs.YtiimkifkakdalaaW.PrintLast Go.Proofs.YtiimkifkakdalaaW.PrintMore
set_option linter.unusedVariables false
set_option linter.unusedSimpArgs false

set_option maxHeartbeats 8000000 in
set_option maxRecDepth 100000 in
theorem slopes.grows (a0_0 : Int) (a0_1 : Int) (a1_0 : Int) (a1_1 : Int) (a2_0 : Int) (a2_1 : Int) (a3_0 : Int) (a3_1 : Int) (r : Int) (w : World) (h : impl_slopes.f a0_0 a0_1 a1_0 a1_1 a2_0 a2_1 a3_0 a3_1 = some r) :
  Calls Try.prog 61 #[.agg #[.int .i64 a0_0, .int .i64 a0_1], .agg #[.int .i64 a1_0, .int .i64 a1_1], .agg #[.int .i64 a2_0, .int .i64 a2_1], .agg #[.int .i64 a3_0, .int .i64 a3_1]] w fun e w' => e = .returned (.int .i64 r) ∧ ∃ q os, w' = Go.Sort.grow (w.drewN q) os := by
 have hu64 := Try.underlying64
 have HB := Aside0.mk (Below.refl w.heap.size w)
 have HD := Aside0.mk (Nat.le_refl w.drawn)
 have H : ((cmp_Compare_int.f (wrap64 ((wrap64 (a1_1 - a0_1)) * (wrap64 (a3_0 - a2_0)))) (wrap64 ((wrap64 (a3_1 - a2_1)) * (wrap64 (a1_0 - a0_0))))).bind fun t805 => (some t805)) = some r := h
 clear h
 replace H := Option.bind_eq_some_iff.mp H
 obtain ⟨t805, A50, H⟩ := H
 (try dsimp only at H)
 have A5 := Aside0.mk A50
 clear A50
 obtain rfl := Option.some.inj H
 go_enter Try.func61, Try.ntmps61
 go_wp2_with (first | ((with_reducible refine gate_dst (N := 4) rfl ?_); refine bxD 4 #[.int .i64 a0_0, .int .i64 a0_1] 64 ?_; intro gb801 hg w6 hbox hb hd; replace HD := Aside0.mk (Nat.le_trans HD.out (Nat.le_of_eq hd.symm)); clear hd; have BK801 := Aside0.mk hbox; have GE801 := gs HB hg; have GW801 := GE801; replace HB := bs HB hb; clear hb hbox hg) | ((with_reducible refine gate_dst (N := 5) rfl ?_); refine bxD 5 #[.int .i64 a1_0, .int .i64 a1_1] 64 ?_; intro gb802 hg w7 hbox hb hd; replace HD := Aside0.mk (Nat.le_trans HD.out (Nat.le_of_eq hd.symm)); clear hd; have n0_ := Aside0.mk (blk_below (g := gb801) (o := .cells #[.int .i64 a0_0, .int .i64 a0_1] 64 (0, 0)) (bk BK801) hb); have n1_ := bsg HB GE801 hb; have n2_ := Aside0.mk (hbox); have n3_ := Aside0.mk ((by rw [hg]; exact (below_size (bg HB GE801)) : w.heap.size ≤ gb802)); have n4_ := Aside0.mk ((by rw [hg]; exact (below_size (bg HB GE801)) : w.heap.size ≤ gb802)); have n5_ := Aside0.mk ((by rw [hg]; exact Nat.ne_of_lt (blk_lt (g := gb801) (o := .cells #[.int .i64 a0_0, .int .i64 a0_1] 64 (0, 0)) (bk BK801)) : gb801 ≠ gb802)); have n6_ := Aside0.mk ((by rw [hg]; exact Nat.ne_of_gt (blk_lt (g := gb801) (o := .cells #[.int .i64 a0_0, .int .i64 a0_1] 64 (0, 0)) (bk BK801)) : gb802 ≠ gb801)); clear BK801; clear HB; have BK801 := n0_; have HB := n1_; have BK802 := n2_; have GW802 := n3_; have GE802 := n4_; have NB801_802 := n5_; have NB802_801 := n6_; clear n0_ n1_ n2_ n3_ n4_ n5_ n6_; clear hb hbox hg) | ((with_reducible refine gate_dst (N := 6) rfl ?_); refine bxD 6 #[.int .i64 a2_0, .int .i64 a2_1] 64 ?_; intro gb803 hg w8 hbox hb hd; replace HD := Aside0.mk (Nat.le_trans HD.out (Nat.le_of_eq hd.symm)); clear hd; have n0_ := Aside0.mk (blk_below (g := gb801) (o := .cells #[.int .i64 a0_0, .int .i64 a0_1] 64 (0, 0)) (bk BK801) hb); have n1_ := Aside0.mk (blk_below (g := gb802) (o := .cells #[.int .i64 a1_0, .int .i64 a1_1] 64 (0, 0)) (bk BK802) hb); have n2_ := Aside0.mk (below_step (by repeat (first | (with_reducible first | exact HB.out | apply below_alloc | apply pw_below_drewN | apply below_drew1 | refine below_set ?_ GE801.out | refine below_set ?_ GE802.out) | exact HB.out)) hb); have n3_ := Aside0.mk (hbox); have n4_ := Aside0.mk ((by rw [hg]; exact (below_size (by repeat (first | (with_reducible first | exact HB.out | apply below_alloc | apply pw_below_drewN | apply below_drew1 | refine below_set ?_ GE801.out | refine below_set ?_ GE802.out) | exact HB.out))) : w.heap.size ≤ gb803)); have n5_ := Aside0.mk ((by rw [hg]; exact (below_size (by repeat (first | (with_reducible first | exact HB.out | apply below_alloc | apply pw_below_drewN | apply below_drew1 | refine below_set ?_ GE801.out | refine below_set ?_ GE802.out) | exact HB.out))) : w.heap.size ≤ gb803)); have n6_ := Aside0.mk ((by rw [hg]; exact Nat.ne_of_lt (blk_lt (g := gb801) (o := .cells #[.int .i64 a0_0, .int .i64 a0_1] 64 (0, 0)) (bk BK801)) : gb801 ≠ gb803)); have n7_ := Aside0.mk ((by rw [hg]; exact Nat.ne_of_gt (blk_lt (g := gb801) (o := .cells #[.int .i64 a0_0, .int .i64 a0_1] 64 (0, 0)) (bk BK801)) : gb803 ≠ gb801)); have n8_ := Aside0.mk ((by rw [hg]; exact Nat.ne_of_lt (blk_lt (g := gb802) (o := .cells #[.int .i64 a1_0, .int .i64 a1_1] 64 (0, 0)) (bk BK802)) : gb802 ≠ gb803)); have n9_ := Aside0.mk ((by rw [hg]; exact Nat.ne_of_gt (blk_lt (g := gb802) (o := .cells #[.int .i64 a1_0, .int .i64 a1_1] 64 (0, 0)) (bk BK802)) : gb803 ≠ gb802)); clear BK801; clear BK802; clear HB; have BK801 := n0_; have BK802 := n1_; have HB := n2_; have BK803 := n3_; have GW803 := n4_; have GE803 := n5_; have NB801_803 := n6_; have NB803_801 := n7_; have NB802_803 := n8_; have NB803_802 := n9_; clear n0_ n1_ n2_ n3_ n4_ n5_ n6_ n7_ n8_ n9_; clear hb hbox hg) | ((with_reducible refine gate_dst (N := 7) rfl ?_); refine bxD 7 #[.int .i64 a3_0, .int .i64 a3_1] 64 ?_; intro gb804 hg w9 hbox hb hd; replace HD := Aside0.mk (Nat.le_trans HD.out (Nat.le_of_eq hd.symm)); clear hd; have n0_ := Aside0.mk (blk_below (g := gb801) (o := .cells #[.int .i64 a0_0, .int .i64 a0_1] 64 (0, 0)) (bk BK801) hb); have n1_ := Aside0.mk (blk_below (g := gb802) (o := .cells #[.int .i64 a1_0, .int .i64 a1_1] 64 (0, 0)) (bk BK802) hb); have n2_ := Aside0.mk (blk_below (g := gb803) (o := .cells #[.int .i64 a2_0, .int .i64 a2_1] 64 (0, 0)) (bk BK803) hb); have n3_ := Aside0.mk (below_step (by repeat (first | (with_reducible first | exact HB.out | apply below_alloc | apply pw_below_drewN | apply below_drew1 | refine below_set ?_ GE801.out | refine below_set ?_ GE802.out | refine below_set ?_ GE803.out) | exact HB.out)) hb); have n4_ := Aside0.mk (hbox); have n5_ := Aside0.mk ((by rw [hg]; exact (below_size (by repeat (first | (with_reducible first | exact HB.out | apply below_alloc | apply pw_below_drewN | apply below_drew1 | refine below_set ?_ GE801.out | refine below_set ?_ GE802.out | refine below_set ?_ GE803.out) | exact HB.out))) : w.heap.size ≤ gb804)); have n6_ := Aside0.mk ((by rw [hg]; exact (below_size (by repeat (first | (with_reducible first | exact HB.out | apply below_alloc | apply pw_below_drewN | apply below_drew1 | refine below_set ?_ GE801.out | refine below_set ?_ GE802.out | refine below_set ?_ GE803.out) | exact HB.out))) : w.heap.size ≤ gb804)); have n7_ := Aside0.mk ((by rw [hg]; exact Nat.ne_of_lt (blk_lt (g := gb801) (o := .cells #[.int .i64 a0_0, .int .i64 a0_1] 64 (0, 0)) (bk BK801)) : gb801 ≠ gb804)); have n8_ := Aside0.mk ((by rw [hg]; exact Nat.ne_of_gt (blk_lt (g := gb801) (o := .cells #[.int .i64 a0_0, .int .i64 a0_1] 64 (0, 0)) (bk BK801)) : gb804 ≠ gb801)); have n9_ := Aside0.mk ((by rw [hg]; exact Nat.ne_of_lt (blk_lt (g := gb802) (o := .cells #[.int .i64 a1_0, .int .i64 a1_1] 64 (0, 0)) (bk BK802)) : gb802 ≠ gb804)); have n10_ := Aside0.mk ((by rw [hg]; exact Nat.ne_of_gt (blk_lt (g := gb802) (o := .cells #[.int .i64 a1_0, .int .i64 a1_1] 64 (0, 0)) (bk BK802)) : gb804 ≠ gb802)); have n11_ := Aside0.mk ((by rw [hg]; exact Nat.ne_of_lt (blk_lt (g := gb803) (o := .cells #[.int .i64 a2_0, .int .i64 a2_1] 64 (0, 0)) (bk BK803)) : gb803 ≠ gb804)); have n12_ := Aside0.mk ((by rw [hg]; exact Nat.ne_of_gt (blk_lt (g := gb803) (o := .cells #[.int .i64 a2_0, .int .i64 a2_1] 64 (0, 0)) (bk BK803)) : gb804 ≠ gb803)); clear BK801; clear BK802; clear BK803; clear HB; have BK801 := n0_; have BK802 := n1_; have BK803 := n2_; have HB := n3_; have BK804 := n4_; have GW804 := n5_; have GE804 := n6_; have NB801_804 := n7_; have NB804_801 := n8_; have NB802_804 := n9_; have NB804_802 := n10_; have NB803_804 := n11_; have NB804_803 := n12_; clear n0_ n1_ n2_ n3_ n4_ n5_ n6_ n7_ n8_ n9_ n10_ n11_ n12_; clear hb hbox hg; have hnb10 := NB802_801.out; have hnc10 := NB801_802.out; have hnb11 := NB802_803.out; have hnc11 := NB803_802.out; have hnb12 := NB802_804.out; have hnc12 := NB804_802.out; have hcz13_0 := bc BK802 0; have hcz13_1 := bc BK802 1; have hfz13_0 := bf BK802 0; have hfz13_1 := bf BK802 1; have hnb14 := NB801_803.out; have hnc14 := NB803_801.out; have hnb15 := NB801_804.out; have hnc15 := NB804_801.out; have hcz16_0 := bc BK801 0; have hcz16_1 := bc BK801 1; have hfz16_0 := bf BK801 0; have hfz16_1 := bf BK801 1; have hnb17 := NB804_803.out; have hnc17 := NB803_804.out; have hcz18_0 := bc BK804 0; have hcz18_1 := bc BK804 1; have hfz18_0 := bf BK804 0; have hfz18_1 := bf BK804 1; have hcz19_0 := bc BK803 0; have hcz19_1 := bc BK803 1; have hfz19_0 := bf BK803 0; have hfz19_1 := bf BK803 1) | ((with_reducible refine gate_callee (f := 103) rfl ?_); refine gL (some 31) rfl rfl Try.func103 (by kernel_rfl) rfl #[.int .i64 (wrap64 ((wrap64 (a1_1 - a0_1)) * (wrap64 (a3_0 - a2_0)))), .int .i64 (wrap64 ((wrap64 (a3_1 - a2_1)) * (wrap64 (a1_0 - a0_0))))] rfl ?_; (with_reducible refine (cmp_Compare_int.calls (wrap64 ((wrap64 (a1_1 - a0_1)) * (wrap64 (a3_0 - a2_0)))) (wrap64 ((wrap64 (a3_1 - a2_1)) * (wrap64 (a1_0 - a0_0)))) t805 _ A5.out).mono ?_); rintro e w' ⟨rfl, ⟨nd, rfl⟩⟩; refine ⟨_, rfl, ?_⟩))
 go_ret
 exact ⟨by first | rfl | (simp [errW_none, errW_some] <;> rfl) | (simp [*, errW_none, errW_some] <;> rfl), grow_of (by repeat (first | (with_reducible first | exact HB.out | apply below_alloc | apply pw_below_drewN | apply below_drew1 | refine below_set ?_ GE801.out | refine below_set ?_ GE802.out | refine below_set ?_ GE803.out | refine below_set ?_ GE804.out) | exact HB.out)) (Nat.le_trans HD.out (by first | exact Nat.le_refl _ | exact Nat.le_add_right _ _ | (simp; done) | (simp; omega)))⟩

theorem cell_grow {W : World} {ad : Addr} {v : Value} (h : W.cell? ad = some v) (q : Nat) (os : Array Obj) : (Go.Sort.grow (W.drewN q) os).cell? ad = some v := by
  have hb : Below W.heap.size W (Go.Sort.grow (W.drewN q) os) := ⟨rfl, rfl, rfl, by simp [Go.Sort.grow, World.drewN], fun k hk => by
    simp only [Go.Sort.grow, World.drewN]
    exact Array.getElem?_append_left hk⟩
  exact (hb.cell (World.block_lt_of_cell? _ _ h)).trans h
def wopc.T1 : Bool × List (List Nat × List Nat) := (true, [([], []), ([], []), ([1], [1]), ([2], [2]), ([0, 3], [0, 3]), ([4], [4]), ([], []), ([], []), ([7], [7]), ([8], [8]), ([6, 9], [6, 9]), ([10], [10]), ([], []), ([], []), ([13], [13]), ([14], [14]), ([12, 15], [12, 15]), ([16], [16]), ([], []), ([], []), ([19], [19]), ([20], [20]), ([18, 21], [18, 21]), ([22], [22]), ([5, 11, 17, 23], [5, 11, 17, 23]), ([24, 24, 0, 1, 2, 3, 4, 5, 6, 7, 8, 9, 10, 11, 12, 13, 14, 15, 16, 17, 18, 19, 20, 21, 22, 23, 24], [24])])
def wopc.B1 : List Nat := [0, 0, 2, 6, 15, 31, 0, 0, 128, 384, 960, 1984, 0, 0, 8192, 24576, 61440, 126976, 0, 0, 524288, 1572864, 3932160, 8126464, 16777215, 33554431]
theorem wopc.tab1 : rtab .any (opsOf Try.f60 1) = wopc.T1 := by kernel_rfl
theorem wopc.bits1 : waitsOk wopc.T1.2 wopc.B1 = true := by kernel_rfl

set_option maxHeartbeats 8000000 in
set_option maxRecDepth 100000 in
theorem WiringOfPoints_1.grows (gp n cx cy cp : Nat) (X Y P : Addr) (a b c d r : Int) (l : List S64) (w : World) (hs : w.cell? ⟨gp, 0, none⟩ = some (.slice (some P) n cp) ∧ w.cell? X = some (.int .i64 a) ∧ w.cell? ⟨X.block, X.off + 1, none⟩ = some (.int .i64 b) ∧ w.cell? Y = some (.int .i64 c) ∧ w.cell? ⟨Y.block, Y.off + 1, none⟩ = some (.int .i64 d) ∧ w.cell? (P.add (a.toNat * 2)) = some (.int .i64 (rd_T64 l a).f0) ∧ w.cell? ⟨(P.add (a.toNat * 2)).block, (P.add (a.toNat * 2)).off + 1, none⟩ = some (.int .i64 (rd_T64 l a).f1) ∧ w.cell? (P.add (b.toNat * 2)) = some (.int .i64 (rd_T64 l b).f0) ∧ w.cell? ⟨(P.add (b.toNat * 2)).block, (P.add (b.toNat * 2)).off + 1, none⟩ = some (.int .i64 (rd_T64 l b).f1) ∧ w.cell? (P.add (c.toNat * 2)) = some (.int .i64 (rd_T64 l c).f0) ∧ w.cell? ⟨(P.add (c.toNat * 2)).block, (P.add (c.toNat * 2)).off + 1, none⟩ = some (.int .i64 (rd_T64 l c).f1) ∧ w.cell? (P.add (d.toNat * 2)) = some (.int .i64 (rd_T64 l d).f0) ∧ w.cell? ⟨(P.add (d.toNat * 2)).block, (P.add (d.toNat * 2)).off + 1, none⟩ = some (.int .i64 (rd_T64 l d).f1)) (hn : (0 ≤ a ∧ a < (n : Int)) ∧ (0 ≤ b ∧ b < (n : Int)) ∧ (0 ≤ c ∧ c < (n : Int)) ∧ (0 ≤ d ∧ d < (n : Int)))
    (hf : impl_slopes.f (rd_T64 l a).f0 (rd_T64 l a).f1 (rd_T64 l b).f0 (rd_T64 l b).f1 (rd_T64 l c).f0 (rd_T64 l c).f1 (rd_T64 l d).f0 (rd_T64 l d).f1 = some r) :
    Calls Try.prog 60 #[.slice (some X) 2 cx, .slice (some Y) 2 cy, .pointer (some ⟨gp, 0, none⟩)] w fun e w' => e = .returned (.int .i64 r) ∧ ∃ q os, w' = Go.Sort.grow (w.drewN q) os := by
  have hu := Try.underlying64
  have HS := Aside0.mk hs
  have HF := Aside0.mk hf
  have HN := Aside0.mk hn
  clear hs hf hn
  go_enter Try.func60, Try.ntmps60
  go_wp2
  have pa := eq_true HN.out.1.1
  have qa := eq_true HN.out.1.2
  have pb := eq_true HN.out.2.1.1
  have qb := eq_true HN.out.2.1.2
  have pc := eq_true HN.out.2.2.1.1
  have qc := eq_true HN.out.2.2.1.2
  have pd := eq_true HN.out.2.2.2.1
  have qd := eq_true HN.out.2.2.2.2
  refine start_ (n := 26) (S := fun w' => w'.cell? ⟨gp, 0, none⟩ = some (.slice (some P) n cp) ∧ w'.cell? X = some (.int .i64 a) ∧ w'.cell? ⟨X.block, X.off + 1, none⟩ = some (.int .i64 b) ∧ w'.cell? Y = some (.int .i64 c) ∧ w'.cell? ⟨Y.block, Y.off + 1, none⟩ = some (.int .i64 d) ∧ w'.cell? (P.add (a.toNat * 2)) = some (.int .i64 (rd_T64 l a).f0) ∧ w'.cell? ⟨(P.add (a.toNat * 2)).block, (P.add (a.toNat * 2)).off + 1, none⟩ = some (.int .i64 (rd_T64 l a).f1) ∧ w'.cell? (P.add (b.toNat * 2)) = some (.int .i64 (rd_T64 l b).f0) ∧ w'.cell? ⟨(P.add (b.toNat * 2)).block, (P.add (b.toNat * 2)).off + 1, none⟩ = some (.int .i64 (rd_T64 l b).f1) ∧ w'.cell? (P.add (c.toNat * 2)) = some (.int .i64 (rd_T64 l c).f0) ∧ w'.cell? ⟨(P.add (c.toNat * 2)).block, (P.add (c.toNat * 2)).off + 1, none⟩ = some (.int .i64 (rd_T64 l c).f1) ∧ w'.cell? (P.add (d.toNat * 2)) = some (.int .i64 (rd_T64 l d).f0) ∧ w'.cell? ⟨(P.add (d.toNat * 2)).block, (P.add (d.toNat * 2)).off + 1, none⟩ = some (.int .i64 (rd_T64 l d).f1)) (ds := []) #[false, false, false, false, false, false, false, false, false, false, false, false, false, false, false, false, false, false, false, false, false, false, false, false, false, false] (by kernel_rfl) rfl rfl ⟨HS.out.1, HS.out.2.1, HS.out.2.2.1, HS.out.2.2.2.1, HS.out.2.2.2.2.1, HS.out.2.2.2.2.2.1, HS.out.2.2.2.2.2.2.1, HS.out.2.2.2.2.2.2.2.1, HS.out.2.2.2.2.2.2.2.2.1, HS.out.2.2.2.2.2.2.2.2.2.1, HS.out.2.2.2.2.2.2.2.2.2.2.1, HS.out.2.2.2.2.2.2.2.2.2.2.2.1, HS.out.2.2.2.2.2.2.2.2.2.2.2.2⟩ (fun hHeld => ?_); refine with_tabW wopc.tab1 wopc.bits1 (fun HT_ HW_ => ?_)
  refine pu 1 7 HT_ ?_
  refine pu 2 8 HT_ ?_
  refine pu 7 13 HT_ ?_
  refine pu 8 14 HT_ ?_
  refine pu 13 19 HT_ ?_
  refine pu 14 20 HT_ ?_
  refine pu 19 25 HT_ ?_
  refine pu 20 26 HT_ ?_
  refine take_ (i := 0) (N := some 6) (v := ?_) (a' := ?_) #[true, true, true, false, false, false, false, true, true, false, false, false, false, true, true, false, false, false, false, true, true, false, false, false, false, false] rfl rfl (take_ofW HT_.out HW_.out (by kernel_rfl)) (fun _ _ _ h => h) (Or.inl ⟨by rfl, ?_⟩) hHeld ?_ ?_
  rotate_left
  · rintro w' ⟨s0, s1, s2, s3, s4, s5, s6, s7, s8, s9, s10, s11, s12⟩
    go_simp
    with_reducible rfl
  rotate_left
  · simp only [Act.put, List.setIfInBounds_toArray, List.set_cons_zero, List.set_cons_succ, i64_w, i32_w]
    rfl
  refine take_ (i := 3) (N := some 9) (v := ?_) (a' := ?_) #[true, true, true, true, false, false, false, true, true, false, false, false, false, true, true, false, false, false, false, true, true, false, false, false, false, false] rfl rfl (take_ofW HT_.out HW_.out (by kernel_rfl)) (fun _ _ _ h => h) (Or.inl ⟨by rfl, ?_⟩) hHeld ?_ ?_
  rotate_left
  · rintro w' ⟨s0, s1, s2, s3, s4, s5, s6, s7, s8, s9, s10, s11, s12⟩
    go_simp
    with_reducible rfl
  rotate_left
  · simp only [Act.put, List.setIfInBounds_toArray, List.set_cons_zero, List.set_cons_succ, i64_w, i32_w]
    rfl
  refine pu 4 10 HT_ ?_
  refine take_ (i := 5) (N := some 11) (v := ?_) (a' := ?_) #[true, true, true, true, true, true, false, true, true, false, false, false, false, true, true, false, false, false, false, true, true, false, false, false, false, false] rfl rfl (take_ofW HT_.out HW_.out (by kernel_rfl)) (fun _ _ _ h => h) (Or.inl ⟨by rfl, ?_⟩) hHeld ?_ ?_
  rotate_left
  · rintro w' ⟨s0, s1, s2, s3, s4, s5, s6, s7, s8, s9, s10, s11, s12⟩
    go_simp
    with_reducible rfl
  rotate_left
  · simp only [Act.put, List.setIfInBounds_toArray, List.set_cons_zero, List.set_cons_succ, i64_w, i32_w]
    rfl
  refine take_ (i := 6) (N := some 12) (v := ?_) (a' := ?_) #[true, true, true, true, true, true, true, true, true, false, false, false, false, true, true, false, false, false, false, true, true, false, false, false, false, false] rfl rfl (take_ofW HT_.out HW_.out (by kernel_rfl)) (fun _ _ _ h => h) (Or.inl ⟨by rfl, ?_⟩) hHeld ?_ ?_
  rotate_left
  · rintro w' ⟨s0, s1, s2, s3, s4, s5, s6, s7, s8, s9, s10, s11, s12⟩
    go_simp
    with_reducible rfl
  rotate_left
  · simp only [Act.put, List.setIfInBounds_toArray, List.set_cons_zero, List.set_cons_succ, i64_w, i32_w]
    rfl
  refine take_ (i := 9) (N := some 15) (v := ?_) (a' := ?_) #[true, true, true, true, true, true, true, true, true, true, false, false, false, true, true, false, false, false, false, true, true, false, false, false, false, false] rfl rfl (take_ofW HT_.out HW_.out (by kernel_rfl)) (fun _ _ _ h => h) (Or.inl ⟨by rfl, ?_⟩) hHeld ?_ ?_
  rotate_left
  · rintro w' ⟨s0, s1, s2, s3, s4, s5, s6, s7, s8, s9, s10, s11, s12⟩
    go_simp
    with_reducible rfl
  rotate_left
  · simp only [Act.put, List.setIfInBounds_toArray, List.set_cons_zero, List.set_cons_succ, i64_w, i32_w]
    rfl
  refine pu 10 16 HT_ ?_
  refine take_ (i := 11) (N := some 17) (v := ?_) (a' := ?_) #[true, true, true, true, true, true, true, true, true, true, true, true, false, true, true, false, false, false, false, true, true, false, false, false, false, false] rfl rfl (take_ofW HT_.out HW_.out (by kernel_rfl)) (fun _ _ _ h => h) (Or.inl ⟨by rfl, ?_⟩) hHeld ?_ ?_
  rotate_left
  · rintro w' ⟨s0, s1, s2, s3, s4, s5, s6, s7, s8, s9, s10, s11, s12⟩
    go_simp
    with_reducible rfl
  rotate_left
  · simp only [Act.put, List.setIfInBounds_toArray, List.set_cons_zero, List.set_cons_succ, i64_w, i32_w]
    rfl
  refine take_ (i := 12) (N := some 18) (v := ?_) (a' := ?_) #[true, true, true, true, true, true, true, true, true, true, true, true, true, true, true, false, false, false, false, true, true, false, false, false, false, false] rfl rfl (take_ofW HT_.out HW_.out (by kernel_rfl)) (fun _ _ _ h => h) (Or.inl ⟨by rfl, ?_⟩) hHeld ?_ ?_
  rotate_left
  · rintro w' ⟨s0, s1, s2, s3, s4, s5, s6, s7, s8, s9, s10, s11, s12⟩
    go_simp
    with_reducible rfl
  rotate_left
  · simp only [Act.put, List.setIfInBounds_toArray, List.set_cons_zero, List.set_cons_succ, i64_w, i32_w]
    rfl
  refine take_ (i := 15) (N := some 21) (v := ?_) (a' := ?_) #[true, true, true, true, true, true, true, true, true, true, true, true, true, true, true, true, false, false, false, true, true, false, false, false, false, false] rfl rfl (take_ofW HT_.out HW_.out (by kernel_rfl)) (fun _ _ _ h => h) (Or.inl ⟨by rfl, ?_⟩) hHeld ?_ ?_
  rotate_left
  · rintro w' ⟨s0, s1, s2, s3, s4, s5, s6, s7, s8, s9, s10, s11, s12⟩
    go_simp
    with_reducible rfl
  rotate_left
  · simp only [Act.put, List.setIfInBounds_toArray, List.set_cons_zero, List.set_cons_succ, i64_w, i32_w]
    rfl
  refine pu 16 22 HT_ ?_
  refine take_ (i := 17) (N := some 23) (v := ?_) (a' := ?_) #[true, true, true, true, true, true, true, true, true, true, true, true, true, true, true, true, true, true, false, true, true, false, false, false, false, false] rfl rfl (take_ofW HT_.out HW_.out (by kernel_rfl)) (fun _ _ _ h => h) (Or.inl ⟨by rfl, ?_⟩) hHeld ?_ ?_
  rotate_left
  · rintro w' ⟨s0, s1, s2, s3, s4, s5, s6, s7, s8, s9, s10, s11, s12⟩
    go_simp
    with_reducible rfl
  rotate_left
  · simp only [Act.put, List.setIfInBounds_toArray, List.set_cons_zero, List.set_cons_succ, i64_w, i32_w]
    rfl
  refine take_ (i := 18) (N := some 24) (v := ?_) (a' := ?_) #[true, true, true, true, true, true, true, true, true, true, true, true, true, true, true, true, true, true, true, true, true, false, false, false, false, false] rfl rfl (take_ofW HT_.out HW_.out (by kernel_rfl)) (fun _ _ _ h => h) (Or.inl ⟨by rfl, ?_⟩) hHeld ?_ ?_
  rotate_left
  · rintro w' ⟨s0, s1, s2, s3, s4, s5, s6, s7, s8, s9, s10, s11, s12⟩
    go_simp
    with_reducible rfl
  rotate_left
  · simp only [Act.put, List.setIfInBounds_toArray, List.set_cons_zero, List.set_cons_succ, i64_w, i32_w]
    rfl
  refine take_ (i := 21) (N := some 27) (v := ?_) (a' := ?_) #[true, true, true, true, true, true, true, true, true, true, true, true, true, true, true, true, true, true, true, true, true, true, false, false, false, false] rfl rfl (take_ofW HT_.out HW_.out (by kernel_rfl)) (fun _ _ _ h => h) (Or.inl ⟨by rfl, ?_⟩) hHeld ?_ ?_
  rotate_left
  · rintro w' ⟨s0, s1, s2, s3, s4, s5, s6, s7, s8, s9, s10, s11, s12⟩
    go_simp
    with_reducible rfl
  rotate_left
  · simp only [Act.put, List.setIfInBounds_toArray, List.set_cons_zero, List.set_cons_succ, i64_w, i32_w]
    rfl
  refine pu 22 28 HT_ ?_
  refine take_ (i := 23) (N := some 29) (v := ?_) (a' := ?_) #[true, true, true, true, true, true, true, true, true, true, true, true, true, true, true, true, true, true, true, true, true, true, true, true, false, false] rfl rfl (take_ofW HT_.out HW_.out (by kernel_rfl)) (fun _ _ _ h => h) (Or.inl ⟨by rfl, ?_⟩) hHeld ?_ ?_
  rotate_left
  · rintro w' ⟨s0, s1, s2, s3, s4, s5, s6, s7, s8, s9, s10, s11, s12⟩
    go_simp
    with_reducible rfl
  rotate_left
  · simp only [Act.put, List.setIfInBounds_toArray, List.set_cons_zero, List.set_cons_succ, i64_w, i32_w]
    rfl
  refine one_ (i := 24) (N := some 30) #[true, true, true, true, true, true, true, true, true, true, true, true, true, true, true, true, true, true, true, true, true, true, true, true, true, false] rfl rfl (one_of HT_.out (by kernel_rfl)) (by decide) (fun K hK => ?_)
  refine goes_ Try.func61 (by kernel_rfl) rfl #[.agg #[.int .i64 (rd_T64 l a).f0, .int .i64 (rd_T64 l a).f1], .agg #[.int .i64 (rd_T64 l b).f0, .int .i64 (rd_T64 l b).f1], .agg #[.int .i64 (rd_T64 l c).f0, .int .i64 (rd_T64 l c).f1], .agg #[.int .i64 (rd_T64 l d).f0, .int .i64 (rd_T64 l d).f1]] (by rfl) rfl rfl (by (try simp only [List.map_toArray, List.map_cons, List.map_nil]); first | done | rfl) ?_
  (with_reducible refine (slopes.grows (rd_T64 l a).f0 (rd_T64 l a).f1 (rd_T64 l b).f0 (rd_T64 l b).f1 (rd_T64 l c).f0 (rd_T64 l c).f1 (rd_T64 l d).f0 (rd_T64 l d).f1 r _ HF.out).mono ?_)
  rintro e w9 ⟨rfl, q9, os9, rfl⟩
  refine ⟨_, rfl, ?_⟩
  have hHELD9 := hHeld
  refine hK.out _ _ (by refine ⟨?_, ?_, ?_, ?_, ?_, ?_, ?_, ?_, ?_, ?_, ?_, ?_, ?_⟩ <;> (refine cell_grow ?_ _ _; first | exact hHeld.1 | exact hHeld.2.1 | exact hHeld.2.2.1 | exact hHeld.2.2.2.1 | exact hHeld.2.2.2.2.1 | exact hHeld.2.2.2.2.2.1 | exact hHeld.2.2.2.2.2.2.1 | exact hHeld.2.2.2.2.2.2.2.1 | exact hHeld.2.2.2.2.2.2.2.2.1 | exact hHeld.2.2.2.2.2.2.2.2.2.1 | exact hHeld.2.2.2.2.2.2.2.2.2.2.1 | exact hHeld.2.2.2.2.2.2.2.2.2.2.2.1 | exact hHeld.2.2.2.2.2.2.2.2.2.2.2.2)) (fun hHeld => ?_)
  clear hK K
  refine norm_ (a' := ?_) ?_ ?_
  rotate_left
  · show Act.put _ (some 30) _ = _
    simp only [Act.put, List.setIfInBounds_toArray, List.set_cons_zero, List.set_cons_succ, i64_w, i32_w]
    rfl
  refine pu 25 5 HT_ ?_
  refine done_ (done_of HT_.out (by kernel_rfl)) ?_
  go_wp2
  go_ret
  exact ⟨rfl, 1 + q9, os9, by simp only [Go.Sort.grow, World.drewN, World.drew, Nat.add_assoc]⟩

end Go.Proofs.Ytiimkifkakdalaa.P
