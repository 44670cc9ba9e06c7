/- impl.whenOf: what a call of it computes. Conditions: none. -/
import Derived.Test.YthibphndihjcaaaOSwaps
import Derived.Test.YthibphndihjcaaaWAll2
import Derived.Laws.CopyOwn
namespace Go.Proofs.Ythibphndihjcaaa.P
open Go.RowKit Go.Proofs.YthibphndihjcaaaW.PrintWords Go.Proofs.YthibphndihjcaaaW.PrintLast Go.Proofs.YthibphndihjcaaaW.PrintMore
attribute [local go_sem] max2_int min2_int max_two min_two max_three min_three max_four min_four
set_option linter.unusedVariables false
set_option linter.unusedSimpArgs false

/-- A list of numbers as the cells of a block. -/
def tb (L : List Int) : Array Value := (L.map (Value.int .i64)).toArray
theorem tb_size (L : List Int) : (tb L).size = L.length := by simp [tb]
theorem tb_set (L : List Int) (i : Nat) (x : Int) : (tb L).setIfInBounds i (.int .i64 x) = tb (L.set i x) := by simp [tb, List.map_set]
theorem tb_get (L : List Int) (i : Nat) (h : i < L.length) : (tb L)[i]? = some (.int .i64 (L.getD i 0)) := by simp [tb, List.getD_eq_getElem?_getD, h]
theorem tb_one (L : List Int) : (tb L).all (·.oneCell') = true := by
  rw [Array.all_eq_true_iff_forall_mem]
  intro v hv
  simp only [tb, List.mem_toArray, List.mem_map] at hv
  obtain ⟨x, _, rfl⟩ := hv
  rfl
def impl_whenOf.l0 : List (List Int) → Int → List Int → Option (List Int)
  | [], _, L => some L
  | [x0, x1] :: rows, z, L => if 0 ≤ x0 ∧ x0 < 6 ∧ 0 ≤ x1 ∧ x1 < 6 then impl_whenOf.l0 rows (z + 1) ((L.set (x0.toNat * 6 + x1.toNat) z).set (x1.toNat * 6 + x0.toNat) z) else none
  | _ :: _, _, _ => none
def impl_whenOf.f (k : Nat) (a0 : Int) (l1 : List Int) : Option (List Int) := (impl_SwapsOf.f k a0 l1).bind fun rows => if rows.length < 1000000 then impl_whenOf.l0 rows 0 (List.replicate 36 0) else none
theorem impl_whenOf.mono : ∀ a0 a1 k, LeO (impl_whenOf.f k a0 a1) (impl_whenOf.f (k + 1) a0 a1) := by
  intro a0 a1 k
  unfold impl_whenOf.f
  repeat' first
    | (with_reducible exact impl_SwapsOf.mono _ _ _)
    | (with_reducible exact LeO.refl _)
    | (with_reducible refine LeO.ite ?_ ?_)
    | (with_reducible refine LeO.bind ?_ (fun _ => ?_))
theorem whenOf_cons {row : List Int} {rows : List (List Int)} {z : Int} {L r : List Int} (h : impl_whenOf.l0 (row :: rows) z L = some r) : ∃ x0 x1 : Int, row = [x0, x1] ∧ 0 ≤ x0 ∧ x0 < 6 ∧ 0 ≤ x1 ∧ x1 < 6 ∧ impl_whenOf.l0 rows (z + 1) ((L.set (x0.toNat * 6 + x1.toNat) z).set (x1.toNat * 6 + x0.toNat) z) = some r := by
  match row, h with
  | [], h => simp [impl_whenOf.l0] at h
  | [_], h => simp [impl_whenOf.l0] at h
  | _ :: _ :: _ :: _, h => simp [impl_whenOf.l0] at h
  | [x0, x1], h =>
    simp only [impl_whenOf.l0] at h
    by_cases hc : 0 ≤ x0 ∧ x0 < 6 ∧ 0 ≤ x1 ∧ x1 < 6
    · rw [if_pos hc] at h; exact ⟨x0, x1, rfl, hc.1, hc.2.1, hc.2.2.1, hc.2.2.2, h⟩
    · rw [if_neg hc] at h; exact absurd h (by simp)
def whenOf.T5 : Bool × List (List Nat × List Nat) := (true, [([], []), ([0], [0]), ([1], [1]), ([], []), ([3], [3]), ([4], [4]), ([], []), ([6], [6]), ([7], [7]), ([], []), ([9], [9]), ([10], [10]), ([], []), ([], []), ([2], [2]), ([14, 5, 0, 1, 2, 3, 4, 5, 12], [5, 14]), ([15, 12, 0, 1, 2, 3, 4, 5, 12], [12, 15]), ([8], [8]), ([17, 11, 0, 1, 2, 3, 4, 5, 6, 7, 8, 9, 10, 11, 12, 13, 14, 15, 16], [11, 17]), ([18, 13, 16, 0, 1, 2, 3, 4, 5, 6, 7, 8, 9, 10, 11, 12, 13, 14, 15, 16], [13, 18])])
def whenOf.B5 : List Nat := [0, 1, 3, 0, 8, 24, 0, 64, 192, 0, 512, 1536, 0, 0, 7, 20543, 53311, 448, 262143, 524287]
theorem whenOf.tab5 : rtab .any (opsOf Try.f58 5) = whenOf.T5 := by kernel_rfl
theorem whenOf.bits5 : waitsOk whenOf.T5.2 whenOf.B5 = true := by kernel_rfl
set_option maxHeartbeats 8000000 in
set_option maxRecDepth 100000 in
theorem impl_whenOf.calls (k : Nat) (a0 : Int) (A1 : Option Addr) (c1 : Nat) (l1 r : List Int) (w : World) (hr1 : Kd.C (Kd.int .i64) w A1 l1.length l1) (hc1 : l1.length ≤ c1) (h : impl_whenOf.f k a0 l1 = some r) :
    Calls Try.prog 58 #[.int .i64 a0, .slice A1 l1.length c1] w fun e w' => e = .returned (.agg (tb r)) ∧ r.length = 36 ∧ Below w.heap.size w w' := by
  have HR1 := Aside0.mk hr1
  have HC1 := Aside0.mk hc1
  clear hr1 hc1
  have H := h
  clear h
  unfold impl_whenOf.f at H
  replace H := Option.bind_eq_some_iff.mp H
  obtain ⟨rows, A30, H⟩ := H
  have A3 := Aside0.mk A30
  clear A30
  by_cases hl : rows.length < 1000000
  case neg => rw [if_neg hl] at H; exact absurd H (by simp)
  rw [if_pos hl] at H
  have H' := Aside0.mk H
  have HL := Aside0.mk hl
  clear H hl
  have HB := Aside0.mk (Below.refl w.heap.size w)
  go_enter Try.func58, Try.ntmps58
  go_wp2_with (first | ((with_reducible refine gate_dst (N := 4) rfl ?_); refine bx 4 (tb (List.replicate 36 0)) 62 ?_; intro g4 hg w2 hbox hb; have GE4 := gs HB hg; have BK4 := Aside0.mk hbox; replace HB := bs HB hb; clear hb hbox hg) | ((with_reducible refine gate_dst (N := 5) rfl ?_); refine bx 5 (tb (List.replicate 36 0)) 62 ?_; intro g5 hg w3 hbox hb; have GE5 := gs HB hg; have NE := Aside0.mk (show g4 < g5 by rw [hg]; exact blk_lt BK4.out); have n0_ := Aside0.mk (blk_below BK4.out hb); have BK5 := Aside0.mk hbox; replace HB := bs HB hb; clear BK4; have BK4 := n0_; clear n0_ hb hbox hg) | (go_at_call 81; (with_reducible refine (impl_SwapsOf.calls k a0 A1 c1 l1 rows _ (Kd.C_below HR1.out HB.out) HC1.out A3.out).mono ?_); rintro e w6 ⟨v6, rfl, hS, hb⟩; have hS2 := Kd.S_mono (Kd.S_bound hS) (ok' := fun k => k ≠ g4 ∧ k ≠ g5) (fun k hk => (by have h1 := hk.2.1; have h2 := blk_lt BK4.out; have h3 := blk_lt BK5.out; exact ⟨by omega, by omega⟩)); have HS := Aside0.mk (Kd.S_lower hS2 (below_size HB.out)); have n0_ := Aside0.mk (blk_below BK4.out hb); have n1_ := Aside0.mk (blk_below BK5.out hb); replace HB := bs HB hb; clear BK4 BK5 hS hS2 hb; have BK4 := n0_; have BK5 := n1_; clear n0_ n1_; obtain ⟨Ao6, co6, eo6⟩ := Kd.S_slice HS.out; subst eo6))
  go_loopg [12] rows.length (fun gg v12 w' => ∃ (i : Nat) (L : List Int), v12 = .int .i64 i ∧ i ≤ rows.length ∧ rows.length - i ≤ gg ∧ Aside0 (L.length = 36 ∧ impl_whenOf.l0 (rows.drop i) i L = some r) ∧ Aside0 (Kd.S (Kd.slice 3 (Kd.int .i64)) 22 w' w.heap.size (fun k => k ≠ g4 ∧ k ≠ g5) (.slice Ao6 rows.length co6) rows) ∧ Aside0 (w'.heap[g5]? = some (.cells (tb L) 62 (0, 0))) ∧ Aside0 (w'.heap[g4]? = some (.cells (tb (List.replicate 36 0)) 62 (0, 0))) ∧ Aside0 (Below w.heap.size w w'))
  case atStart => exact ⟨0, List.replicate 36 0, rfl, Nat.zero_le _, by omega, ⟨rfl, H'.out⟩, HS, BK5, BK4, HB⟩
  case round =>
    clear H' HS BK5 BK4 HB
    obtain ⟨i, L, rfl, hi, hg, HI, HS, BK5, BK4, HB⟩ := hrel
    by_cases hlt : i < rows.length
    · obtain ⟨hL, hE⟩ := HI.out
      have hrd : rd_L1 rows (i : Int) = rows[i] := by simp [rd_L1, List.getD_eq_getElem?_getD, hlt]
      rw [List.drop_eq_getElem_cons hlt, ← hrd] at hE
      obtain ⟨x0, x1, hrow, h0, h1, h2, h3, hE⟩ := whenOf_cons hE
      have c4 : decide ((i : Int) < (rows.length : Int)) = true := decide_eq_true (by omega)
      have c5 : ((i : Int) < (rows.length : Int)) = True := eq_true (by omega)
      have c6 : (0 ≤ (i : Int)) = True := eq_true (by omega)
      obtain ⟨g6, c6', e6, _, _, _⟩ := Kd.S_form HS.out (by omega)
      cases e6
      obtain ⟨ce, hce, hMe, hcc⟩ := Kd.S_get HS.out [] (i : Int) (by omega) (by omega)
      obtain ⟨ve, rfl, ge⟩ := hMe
      have hxr := hcc 0 _ rfl
      rw [Nat.add_zero, show (Kd.slice 3 (Kd.int .i64)).sz = 1 from rfl, Nat.mul_one] at hxr
      rw [show rows.getD ((i : Int).toNat) [] = [x0, x1] from hrow] at ge
      obtain ⟨gr, cr, er, _, _, _⟩ := Kd.R_form ge (by simp)
      cases er
      have hgr := ge.1 gr rfl
      obtain ⟨hx0, _⟩ := Kd.R_celln 0 ge 0 (by omega) (by simp)
      obtain ⟨hx1, _⟩ := Kd.R_celln 0 ge 1 (by omega) (by simp)
      obtain ⟨z, hz⟩ : ∃ z : Int, (i : Int) = z := ⟨_, rfl⟩
      rw [hz] at c4 c5 c6 hxr hE ⊢
      simp only [add_plain] at hxr
      replace hxr : wr.cell? ⟨g6, z.toNat, none⟩ = some (.slice (some ⟨gr, 0, none⟩) 2 cr) := hxr
      replace hx0 : wr.cell? ⟨gr, 0, none⟩ = some (.int .i64 x0) := hx0
      replace hx1 : wr.cell? ⟨gr, 1, none⟩ = some (.int .i64 x1) := hx1
      have HGR := Aside0.mk (show gr ≠ g5 from hgr.1.2)
      have p0 := eq_true h0
      have p1 := eq_true h1
      have p2 := eq_true h2
      have p3 := eq_true h3
      have HZ := Aside0.mk (And.intro hz (And.intro hi (And.intro hg hlt)))
      have HE := Aside0.mk hE
      have HL2 := Aside0.mk hL
      have HX := Aside0.mk (And.intro h0 (And.intro h1 (And.intro h2 h3)))
      clear hz hi hg hlt HI hE hrd hrow hL h0 h1 h2 h3 hgr ge hcc hce
      try go_wp2
      (try (go_end0; (try go_wp2)))
      have n0_ := Aside0.mk (Kd.S_drew HS.out)
      have n1_ := Aside0.mk (blk_drew BK5.out)
      have n2_ := Aside0.mk (blk_drew BK4.out)
      have n3_ := Aside0.mk (below_drew1 HB.out)
      clear HS BK5 BK4 HB
      refine start_ (n := 20) (S := fun w' => w'.cell? ⟨gr, 0, none⟩ = some (.int .i64 x0) ∧ w'.cell? ⟨gr, 1, none⟩ = some (.int .i64 x1)) (ds := [19]) #[false, false, false, false, false, false, false, false, false, false, false, false, false, false, false, false, false, false, false, false] (by kernel_rfl) rfl rfl ⟨hx0, hx1⟩ (fun hHeld => ?_); refine with_tabW whenOf.tab5 whenOf.bits5 (fun HT_ HW_ => ?_)
      generalize wr.drew = w2 at n0_ n1_ n2_ n3_ hHeld ⊢
      have hi1 : x0.toNat * 6 + x1.toNat < L.length := by have := HX.out; have := HL2.out; omega
      have hi2 : x1.toNat * 6 + x0.toNat < (L.set (x0.toNat * 6 + x1.toNat) z).length := by have := HX.out; have := HL2.out; rw [List.length_set]; omega
      have n4_ := Aside0.mk (blk_put n1_.out (x0.toNat * 6 + x1.toNat) (.int .i64 z) (tb_set L _ z))
      have n5_ := Aside0.mk (blk_put n4_.out (x1.toNat * 6 + x0.toNat) (.int .i64 z) (tb_set _ _ z))
      have hs1 := (blk_cell n1_.out (x0.toNat * 6 + x1.toNat)).trans (tb_get L _ hi1)
      have hf1 := blk_frozen n1_.out (x0.toNat * 6 + x1.toNat)
      have hs2 := (blk_cell n4_.out (x1.toNat * 6 + x0.toNat)).trans (tb_get _ _ hi2)
      have hf2 := blk_frozen n4_.out (x1.toNat * 6 + x0.toNat)
      have n6_ := Aside0.mk (Kd.S_far (p := ⟨g5, x1.toNat * 6 + x0.toNat, none⟩) (Kd.S_far (p := ⟨g5, x0.toNat * 6 + x1.toNat, none⟩) n0_.out (fun k hk => hk.2) (.int .i64 z)) (fun k hk => hk.2) (.int .i64 z))
      have hne : g4 ≠ g5 := by have := NE.out; omega
      have n7_ := Aside0.mk (blk_far (p := ⟨g5, x1.toNat * 6 + x0.toNat, none⟩) (blk_far (p := ⟨g5, x0.toNat * 6 + x1.toNat, none⟩) n2_.out hne (.int .i64 z)) hne (.int .i64 z))
      have n8_ := Aside0.mk ((n3_.out.setCell (p := ⟨g5, x0.toNat * 6 + x1.toNat, none⟩) GE5.out (.int .i64 z)).setCell (p := ⟨g5, x1.toNat * 6 + x0.toNat, none⟩) GE5.out (.int .i64 z))
      clear n0_ n1_ n2_ n3_ n4_ hi1 hi2 hne
      refine pu 0 17 HT_ ?_
      refine pu 1 18 HT_ ?_
      refine pu 3 20 HT_ ?_
      refine pu 4 21 HT_ ?_
      refine pu 6 23 HT_ ?_
      refine pu 7 24 HT_ ?_
      refine pu 9 26 HT_ ?_
      refine pu 10 27 HT_ ?_
      refine pu 12 29 HT_ ?_
      refine pu 13 30 HT_ ?_
      refine take_ (i := 2) (N := some 19) (v := ?_) (a' := ?_) #[true, true, true, true, true, false, true, true, false, true, true, false, true, true, false, false, false, false, false, false] rfl rfl (take_ofW HT_.out HW_.out (by kernel_rfl)) (fun _ _ _ h => h) (Or.inl ⟨by rfl, ?_⟩) hHeld ?_ ?_
      rotate_left
      · rintro w' ⟨s0, s1⟩
        go_simp
        with_reducible rfl
      rotate_left
      · simp only [Act.put, List.setIfInBounds_toArray, List.set_cons_zero, List.set_cons_succ, i64_w, i32_w]
        rfl
      refine pu 14 31 HT_ ?_
      refine take_ (i := 5) (N := some 22) (v := ?_) (a' := ?_) #[true, true, true, true, true, true, true, true, false, true, true, false, true, true, true, false, false, false, false, false] rfl rfl (take_ofW HT_.out HW_.out (by kernel_rfl)) (fun _ _ _ h => h) (Or.inl ⟨by rfl, ?_⟩) hHeld ?_ ?_
      rotate_left
      · rintro w' ⟨s0, s1⟩
        go_simp
        with_reducible rfl
      rotate_left
      · simp only [Act.put, List.setIfInBounds_toArray, List.set_cons_zero, List.set_cons_succ, i64_w, i32_w]
        rfl
      refine pu 15 32 HT_ ?_
      refine take_ (i := 8) (N := some 25) (v := ?_) (a' := ?_) #[true, true, true, true, true, true, true, true, true, true, true, false, true, true, true, true, false, false, false, false] rfl rfl (take_ofW HT_.out HW_.out (by kernel_rfl)) (fun _ _ _ h => h) (Or.inl ⟨by rfl, ?_⟩) hHeld ?_ ?_
      rotate_left
      · rintro w' ⟨s0, s1⟩
        go_simp
        with_reducible rfl
      rotate_left
      · simp only [Act.put, List.setIfInBounds_toArray, List.set_cons_zero, List.set_cons_succ, i64_w, i32_w]
        rfl
      refine pu 17 33 HT_ ?_
      refine take_ (i := 11) (N := some 28) (v := ?_) (a' := ?_) #[true, true, true, true, true, true, true, true, true, true, true, true, true, true, true, true, false, true, false, false] rfl rfl (take_ofW HT_.out HW_.out (by kernel_rfl)) (fun _ _ _ h => h) (Or.inl ⟨by rfl, ?_⟩) hHeld ?_ ?_
      rotate_left
      · rintro w' ⟨s0, s1⟩
        go_simp
        with_reducible rfl
      rotate_left
      · simp only [Act.put, List.setIfInBounds_toArray, List.set_cons_zero, List.set_cons_succ, i64_w, i32_w]
        rfl
      refine one_ (i := 16) (N := none) #[true, true, true, true, true, true, true, true, true, true, true, true, true, true, true, true, true, true, false, false] rfl rfl (one_of HT_.out (by kernel_rfl)) (by decide) (fun K hK => ?_)
      refine skip_ (w1 := ?_) (by rfl) rfl ?_ ?_
      rotate_left
      · go_simp
        rfl
      refine hK.out _ _ ⟨(cell_far (p := ⟨g5, _, none⟩) HGR.out _).trans hHeld.1, (cell_far (p := ⟨g5, _, none⟩) HGR.out _).trans hHeld.2⟩ (fun hHeld2 => ?_)
      clear hK K
      refine pu 18 34 HT_ ?_
      refine last_ (i := 19) (N := none) #[true, true, true, true, true, true, true, true, true, true, true, true, true, true, true, true, true, true, true, true] rfl rfl (one_of HT_.out (by kernel_rfl)) (by decide) (fun K hK => ?_)
      refine skip_ (w1 := ?_) (by rfl) rfl ?_ ?_
      rotate_left
      · go_simp
        rfl
      refine hK.out _ _ ?_
      clear hK K
      refine done_ (done_of HT_.out (by kernel_rfl)) ?_
      try go_wp2
      (try (go_end0; (try go_wp2)))
      go_roundg (rows.length - (i + 1))
      case measure => have := HZ.out; omega
      case rel => exact ⟨i + 1, _, by have h1 := HZ.out.1; have h2 := HZ.out.2.1; have h3 := HL.out; rw [← h1]; congr 1; unfold wrap64; omega, by have := HZ.out; omega, by have := HZ.out; omega, ⟨by rw [List.length_set, List.length_set]; exact HL2.out, by have h1 := HE.out; have h2 := HZ.out.1; rw [show (((i + 1 : Nat)) : Int) = z + 1 by omega]; exact h1⟩, n6_, n5_, n7_, n8_⟩
    · have c4 : decide ((i : Int) < (rows.length : Int)) = false := decide_eq_false (by omega)
      have c5 : ((i : Int) < (rows.length : Int)) = False := eq_false (by omega)
      obtain ⟨hL, hE⟩ := HI.out
      rw [List.drop_of_length_le (by omega)] at hE
      obtain rfl : L = r := by simpa [impl_whenOf.l0] using hE
      have HL2 := Aside0.mk hL
      obtain ⟨z, hz⟩ : ∃ z : Int, (i : Int) = z := ⟨_, rfl⟩
      rw [hz] at c4 c5 ⊢
      clear hE hL HI hz hi hg hlt
      go_wp2_with (first | ((with_reducible refine gate_dst (N := 36) rfl ?_); refine wpList_load_row rfl 62 (.tmp 5) rfl g5 rfl 62 (tb L) (0, 0) _ BK5.out Try.underlying62 rfl (by rw [tb_size, HL2.out]; kernel_rfl) ?_) | ((with_reducible refine gate_store (t := 62) (p := 4) rfl ?_); refine wpList_store_row rfl 62 (.tmp 4) (.tmp 36) rfl g4 (tb L) rfl rfl 62 (tb (List.replicate 36 0)) BK4.out (by rw [tb_size, HL2.out]; kernel_rfl) (by rw [tb_size, tb_size, HL2.out]; rfl) (tb_one L) ?_))
      refine bodyPost_ret (results_cell_row rfl _ _ g4 62 (tb L) (0, 0) _ rfl (setRow_heap _ g4 _ (tb L) _ _ BK4.out) Try.underlying62 rfl (by rw [tb_size, HL2.out]; kernel_rfl)) rfl ?_
      exact ⟨rfl, HL2.out, below_setRow HB.out GE4.out _⟩

end Go.Proofs.Ythibphndihjcaaa.P
