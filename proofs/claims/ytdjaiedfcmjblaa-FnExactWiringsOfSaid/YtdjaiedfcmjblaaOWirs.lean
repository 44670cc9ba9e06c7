/- impl.wirings: what a call of it computes. Conditions: the rows that came in are owned. -/
import Derived.Test.YtdjaiedfcmjblaaWAll2
import Derived.Test.YtdjaiedfcmjblaaOClone
namespace Go.Proofs.Ytdjaiedfcmjblaa.P
open Go.RowKit Go.Proofs.YtdjaiedfcmjblaaW.PrintWords Go.Proofs.YtdjaiedfcmjblaaW.PrintLast Go.Proofs.YtdjaiedfcmjblaaW.PrintMore
attribute [local go_sem] max2_int min2_int max_two min_two max_three min_three max_four min_four
set_option linter.unusedVariables false
set_option linter.unusedSimpArgs false

mutual
def impl_wirings.f : Nat → Int → List Int → List Int → List (List Int) → Option (List (List Int))
  | 0, _, _, _, _ => none
  | k + 1, n, ws, hd, out => if (hd.length : Int) = wrap64 (Int.tdiv (wrap64 (n * wrap64 (n - 1))) 2) then ((slices_Clone_int_int.f hd).bind fun h => if out.length < 1000000 then some (out ++ [h]) else none) else impl_wirings.l0 k n ws hd out 0
def impl_wirings.l0 : Nat → Int → List Int → List Int → List (List Int) → Int → Option (List (List Int))
  | 0, _, _, _, _, _ => none
  | k + 1, n, ws, hd, out, p => if p < wrap64 (n - 1) then (if 0 ≤ p ∧ p < (ws.length : Int) ∧ 0 ≤ wrap64 (p + 1) ∧ wrap64 (p + 1) < (ws.length : Int) ∧ hd.length < 1000000 then (if rd ws p < rd ws (wrap64 (p + 1)) then ((slices_Clone_int_int.f ws).bind fun nx => (slices_Clone_int_int.f hd).bind fun h2 => if nx.length = ws.length ∧ h2.length < 1000000 then ((impl_wirings.f k n ((nx.set p.toNat (rd nx (wrap64 (p + 1)))).set (wrap64 (p + 1)).toNat (rd nx p)) (h2 ++ [p]) out).bind fun o => impl_wirings.l0 k n ws hd o (wrap64 (p + 1))) else none) else impl_wirings.l0 k n ws hd out (wrap64 (p + 1))) else none) else some out
end
def wir.T1 : Bool × List (List Nat × List Nat) := (true, [([], []), ([], []), ([1], [1]), ([2], [2]), ([], []), ([4], [4]), ([5], [5]), ([3, 6, 5], [3, 6]), ([0, 0, 1, 2, 3, 4, 5, 6, 7], [0]), ([8, 7, 7, 0, 1, 2, 3, 4, 5, 6, 7], [7, 8])])
def wir.B1 : List Nat := [0, 0, 2, 6, 0, 16, 48, 126, 255, 511]
theorem wir.tab1 : rtab .any (opsOf Try.f59 1) = wir.T1 := by kernel_rfl
theorem wir.bits1 : waitsOk wir.T1.2 wir.B1 = true := by kernel_rfl
def wir.T5 : Bool × List (List Nat × List Nat) := (true, [([], []), ([], []), ([0, 1], [0, 1]), ([2], [2]), ([], []), ([], []), ([5], [5]), ([4, 6], [4, 6]), ([7], [7]), ([3, 8], [3, 8])])
def wir.B5 : List Nat := [0, 0, 3, 7, 0, 0, 32, 112, 240, 511]
theorem wir.tab5 : rtab .any (opsOf Try.f59 5) = wir.T5 := by kernel_rfl
theorem wir.bits5 : waitsOk wir.T5.2 wir.B5 = true := by kernel_rfl
def wir.T7 : Bool × List (List Nat × List Nat) := (true, [([], []), ([], []), ([], []), ([], []), ([3], [3]), ([], []), ([], []), ([6], [6]), ([5, 7], [5, 7]), ([8], [8]), ([], []), ([], []), ([10, 11], [10, 11]), ([12], [12]), ([0, 1, 0, 1, 5, 6, 7, 8, 9, 13], [0, 1]), ([14, 9, 0, 1, 5, 6, 7, 8, 9, 13], [9, 14]), ([2, 4, 0, 1, 2, 3, 4, 5, 6, 7, 8, 9, 10, 11, 12, 13, 14, 15], [2, 4]), ([16, 13, 15, 0, 1, 2, 3, 4, 5, 6, 7, 8, 9, 10, 11, 12, 13, 14, 15], [13, 16])])
def wir.B7 : List Nat := [0, 0, 0, 0, 8, 0, 0, 64, 224, 480, 0, 0, 3072, 7168, 16355, 32739, 65535, 131071]
theorem wir.tab7 : rtab .any (opsOf Try.f59 7) = wir.T7 := by kernel_rfl
theorem wir.bits7 : waitsOk wir.T7.2 wir.B7 = true := by kernel_rfl
set_option maxHeartbeats 8000000 in
set_option maxRecDepth 100000 in
theorem impl_wirings.calls (k : Nat) : ∀ (n : Int) (v1 v2 u : Value) (gC : Nat) (ws hd : List Int) (out r : List (List Int)) (w0 w : World) (P0 : Nat → Prop), Below w0.heap.size w0 w → Kd.R (Kd.int .i64) 3 w w0.heap.size (fun k => ¬ (P0 k ∨ k = gC)) v1 ws → Kd.R (Kd.int .i64) 3 w w0.heap.size (fun k => ¬ (P0 k ∨ k = gC)) v2 hd → w.heap[gC]? = some (.cells #[u] 34 (0, 0)) → w0.heap.size ≤ gC → ¬ P0 gC → Kd.S (Kd.slice 3 (Kd.int .i64)) 22 w w0.heap.size P0 u out → impl_wirings.f k n ws hd out = some r →
    Calls Try.prog 59 #[.int .i64 n, v1, v2, .pointer (some ⟨gC, 0, none⟩)] w fun e w' => e = .returned (.tuple #[]) ∧ (∃ u' : Value, w'.heap[gC]? = some (.cells #[u'] 34 (0, 0)) ∧ Kd.S (Kd.slice 3 (Kd.int .i64)) 22 w' w0.heap.size (fun k => P0 k ∨ w.heap.size ≤ k) u' r) ∧ Below w0.heap.size w0 w' ∧ Kept w w' (fun k => P0 k ∨ k = gC) := by
  induction k using Nat.strongRecOn with
  | ind k IH =>
    intro n v1 v2 u gC ws hd out r w0 w P0 hB hR1 hR2 hbk hgC hnP hS h
    have HIH := Aside0.mk IH
    clear IH
    cases k with
    | zero => exact absurd h (by simp [impl_wirings.f])
    | succ k =>
      simp only [impl_wirings.f] at h
      obtain ⟨A1, c1, e1⟩ := Kd.R_slice hR1
      subst e1
      obtain ⟨A2, c2, e2⟩ := Kd.R_slice hR2
      subst e2
      obtain ⟨A3, c3, e3⟩ := Kd.S_slice hS
      subst e3
      have HR1 := Aside0.mk hR1
      have HR2 := Aside0.mk hR2
      have HS := Aside0.mk hS
      have HB := Aside0.mk hB
      have BK := Aside0.mk hbk
      have HGC := Aside0.mk hgC
      have HNP := Aside0.mk hnP
      have HLT := Aside0.mk (show gC < w.heap.size from blk_lt hbk)
      clear hR1 hR2 hS hB hbk hgC hnP
      by_cases hc : (hd.length : Int) = wrap64 (Int.tdiv (wrap64 (n * wrap64 (n - 1))) 2)
      · rw [if_pos hc] at h
        replace h := Option.bind_eq_some_iff.mp h
        obtain ⟨y, A10, h⟩ := h
        have AC := Aside0.mk A10
        clear A10
        by_cases hl : out.length < 1000000
        case neg => rw [if_neg hl] at h; exact absurd h (by simp)
        rw [if_pos hl] at h
        have c0 : ((hd.length : Int) == wrap64 (Int.tdiv (wrap64 (n * wrap64 (n - 1))) 2)) = true := beq_iff_eq.mpr hc
        have HL := Aside0.mk hl
        obtain rfl := Option.some.inj h
        clear h hc hl
        go_enter Try.func59, Try.ntmps59
        try go_wp2
        have hcc : w.drew.cell? ⟨gC, 0, none⟩ = some (.slice A3 out.length c3) := (blk_cell BK.out 0).trans rfl
        have n0_ := Aside0.mk (Kd.R_drew HR1.out)
        have n1_ := Aside0.mk (Kd.R_drew HR2.out)
        have n2_ := Aside0.mk (Kd.S_drew HS.out)
        have n3_ := Aside0.mk (below_drew1 HB.out)
        have n4_ := Aside0.mk (blk_drew BK.out)
        have n5_ := Aside0.mk (show Kept w w.drew (fun k => P0 k ∨ k = gC) from Kept.refl w _)
        have n6_ := Aside0.mk (show gC < w.drew.heap.size from HLT.out)
        have n7_ := Aside0.mk (show w.heap.size = w.drew.heap.size from rfl)
        refine start_ (n := 10) (S := fun w' => w'.cell? ⟨gC, 0, none⟩ = some (.slice A3 out.length c3)) (ds := [7, 9]) #[false, false, false, false, false, false, false, false, false, false] (by kernel_rfl) rfl rfl hcc (fun hHeld => ?_); refine with_tabW wir.tab1 wir.bits1 (fun HT_ HW_ => ?_)
        clear HR1 HR2 HS HB BK HLT hcc
        generalize w.drew = w2 at n0_ n1_ n2_ n3_ n4_ n5_ n6_ n7_ hHeld ⊢
        refine pu 0 18 HT_ ?_
        refine pu 1 19 HT_ ?_
        refine pu 2 20 HT_ ?_
        refine pu 4 22 HT_ ?_
        refine take_ (i := 3) (N := some 21) (v := ?_) (a' := ?_) #[true, true, true, true, true, false, false, false, false, false] rfl rfl (take_ofW HT_.out HW_.out (by kernel_rfl)) (fun _ _ _ h => h) (Or.inl ⟨by rfl, ?_⟩) hHeld ?_ ?_
        rotate_left
        · intro w' s0
          go_simp
          with_reducible rfl
        rotate_left
        · simp only [Act.put, List.setIfInBounds_toArray, List.set_cons_zero, List.set_cons_succ, i64_w, i32_w]
          rfl
        refine one_ (i := 5) (N := some 23) #[true, true, true, true, true, true, false, false, false, false] rfl rfl (one_of HT_.out (by kernel_rfl)) (by decide) (fun K hK => ?_)
        refine goes_ Try.func55 (by kernel_rfl) rfl #[.slice A2 hd.length c2] (by rfl) rfl rfl (by (try simp only [List.map_toArray, List.map_cons, List.map_nil]); first | done | rfl) ?_
        refine (slices_Clone_int_int.calls A2 c2 hd y w2 (Kd.R_reads' n1_.out).2.2 (Kd.R_reads' n1_.out).2.1 AC.out).mono ?_
        rintro e w3 ⟨v3, rfl, ho, hb⟩
        refine ⟨_, rfl, ?_⟩
        obtain ⟨A23, c23, e23⟩ := Kd.R_slice ho
        subst e23
        have H23 := Aside0.mk ho
        have B23 := Aside0.mk hb
        refine hK.out _ _ ((hb.cell (World.block_lt_of_cell? _ _ hHeld)).trans hHeld) (fun hHeld3 => ?_)
        clear hK K ho hb
        refine norm_ (a' := ?_) ?_ ?_
        rotate_left
        · show Act.put _ (some 23) _ = _
          simp only [Act.put, List.setIfInBounds_toArray, List.set_cons_zero, List.set_cons_succ, i64_w, i32_w]
          rfl
        refine one_ (i := 6) (N := some 24) #[true, true, true, true, true, true, true, false, false, false] rfl rfl (one_of HT_.out (by kernel_rfl)) (by decide) (fun K hK => ?_)
        refine value_ (w1 := ?_) (v := ?_) (by rfl) rfl ?_ ?_
        rotate_left 2
        · go_simp
          constructor
          · rfl
          · rfl
        refine hK.out _ _ (((below_alloc (Below.refl _ _) _).cell (World.block_lt_of_cell? _ _ hHeld3)).trans hHeld3) (fun hHeld4 => ?_)
        clear hK K
        refine norm_ (a' := ?_) ?_ ?_
        rotate_left
        · show Act.put _ (some 24) _ = _
          simp only [Act.put, List.setIfInBounds_toArray, List.set_cons_zero, List.set_cons_succ, i64_w, i32_w]
          rfl
        refine last_ (i := 7) (N := some 25) #[true, true, true, true, true, true, true, true, false, false] rfl rfl (one_of HT_.out (by kernel_rfl)) (by decide) (fun K hK => ?_)
        refine Kd.S_append_step (Kd.slice 3 (Kd.int .i64)) (w0 := w0) w0.heap.size (by rfl) (.tmp 21) (.tmp 24) 34 22 (.slice none 0 0) 24 rfl Try.underlying34 info22 rfl (by decide) (by omega) (.slice A3 out.length c3) out y [.slice A23 y.length c23] (fun k => P0 k ∨ w.heap.size ≤ k) (fun k => some k = (.slice A23 y.length c23 : Value).ownBlock) rfl rfl ?aP ?aK ?aF ?aO ?aB ?aS ?aL ?_
        (case aP => exact Kd.M_row (Kd.R_lower (Kd.R_tight rfl H23.out) (below_size n3_.out)))
        (case aK => exact fun k hk => ⟨.inr (by rw [n7_.out]; exact Kd.R_base H23.out k hk.symm), fun he => by have h1 := Kd.R_base H23.out k hk.symm; have h2 := Kd.R_lt (Kd.S_R n2_.out) k he.symm; omega⟩)
        (case aF => exact fun k hk => .inr (by rw [n7_.out]; exact Nat.le_trans (below_size B23.out) hk))
        (case aO => exact Kd.S_mono (Kd.S_below (Kd.S_bound n2_.out) B23.out) (fun k hk => ⟨.inl hk.1, fun he => by have h1 := Kd.R_base H23.out k he.symm; have h2 := hk.2.2.1; omega⟩))
        (case aB => exact below_then n3_.out n3_.out.size B23.out)
        (case aS => exact Nat.le_trans (below_size n3_.out) (below_size B23.out))
        (case aL => have := HL.out; omega)
        intro v4 w4 ho hb hg hat_
        obtain ⟨A4, c4, e4⟩ := Kd.S_slice ho
        subst e4
        rw [show (out ++ [y]).length = out.length + 1 by simp] at ho ⊢
        have hnb : some gC ≠ (Value.slice A3 out.length c3).ownBlock := fun he => HNP.out ((Kd.S_R n2_.out).1 gC he.symm)
        have hbk4 : w4.heap[gC]? = some (.cells #[.slice A3 out.length c3] 34 (0, 0)) := (hg.block gC (Nat.lt_of_lt_of_le n6_.out (below_size B23.out)) hnb).trans ((B23.out.block gC n6_.out).trans n4_.out)
        have HSN := Aside0.mk ho
        have HBN := Aside0.mk hb
        have BKN := Aside0.mk hbk4
        have HKN := Aside0.mk (show Kept w w4 (fun k => P0 k ∨ k = gC) from ⟨Nat.le_trans n5_.out.1 (Nat.le_trans (below_size B23.out) hg.size), fun k hlt hne => (hg.block k (Nat.lt_of_lt_of_le hlt (Nat.le_trans n5_.out.1 (below_size B23.out))) (fun he => hne (.inl ((Kd.S_R n2_.out).1 k he.symm)))).trans ((B23.out.block k (Nat.lt_of_lt_of_le hlt n5_.out.1)).trans (n5_.out.2 k hlt hne))⟩)
        refine hK.out _ _ ?_
        clear hK K hHeld hHeld3 hHeld4 ho hb hg hat_ hbk4 hnb
        refine norm_ (a' := ?_) ?_ ?_
        rotate_left
        · show Act.put _ (some 25) _ = _
          simp only [Act.put, List.setIfInBounds_toArray, List.set_cons_zero, List.set_cons_succ, i64_w, i32_w]
          rfl
        refine pu 8 26 HT_ ?_
        refine last_ (i := 9) (N := none) #[true, true, true, true, true, true, true, true, true, true] rfl rfl (one_of HT_.out (by kernel_rfl)) (by decide) (fun K hK => ?_)
        have hs35 : w4.cell? ⟨gC, 0, none⟩ = some (.slice A3 out.length c3) := (blk_cell BKN.out 0).trans rfl
        have hfs35 := blk_frozen BKN.out 0
        refine skip_ (w1 := ?_) (by rfl) rfl ?_ ?_
        rotate_left
        · go_simp
          rfl
        refine hK.out _ _ ?_
        clear hK K
        refine done_ (done_of HT_.out (by kernel_rfl)) ?_
        try go_wp2
        first | (refine bodyPost_ret (results_none rfl _ _ _) rfl ?_) | go_end0 | ((try simp only [Exit.inBlock, Exit.then]); refine bodyPost_ret (results_none rfl _ _ _) rfl ?_)
        have h1 := blk_lt BKN.out
        refine ⟨rfl, ⟨_, blk_put BKN.out 0 _ rfl, Kd.S_far HSN.out (fun k hk he => hk.elim (fun h => HNP.out (by have h3 : k = gC := he; rw [← h3]; exact h)) (fun h => by have h2 := n6_.out; rw [← n7_.out] at h2; have h3 : k = gC := he; omega)) _⟩, HBN.out.setCell HGC.out _, ⟨by rw [World.size_setCell]; exact HKN.out.1, fun k hlt hne => (Below.heap_setCell w4 ⟨gC, 0, none⟩ _ k (fun he => hne (.inr he))).trans (HKN.out.2 k hlt hne)⟩⟩
      · rw [if_neg hc] at h
        have c0 : ((hd.length : Int) == wrap64 (Int.tdiv (wrap64 (n * wrap64 (n - 1))) 2)) = false := beq_eq_false_iff_ne.mpr hc
        have H' := Aside0.mk h
        clear h hc
        go_enter Try.func59, Try.ntmps59
        go_wp2
        go_loopg [8] k (fun kq v8 w' => ∃ (o : List (List Int)) (p : Int) (u' : Value), v8 = .int .i64 p ∧ Aside0 (impl_wirings.l0 kq n ws hd o p = some r) ∧ Aside0 (kq ≤ k) ∧ Aside0 (w'.heap[gC]? = some (.cells #[u'] 34 (0, 0))) ∧ Aside0 (Kd.S (Kd.slice 3 (Kd.int .i64)) 22 w' w0.heap.size (fun k => P0 k ∨ w.heap.size ≤ k) u' o) ∧ Aside0 (Below w0.heap.size w0 w') ∧ Aside0 (Kept w w' (fun k => P0 k ∨ k = gC)))
        case atStart => exact ⟨out, 0, _, rfl, H', ⟨Nat.le_refl _⟩, BK, ⟨Kd.S_mono HS.out (fun k hk => .inl hk)⟩, HB, ⟨Kept.refl _ _⟩⟩
        case round =>
          clear H'
          obtain ⟨o, p, u', rfl, HA, HK1, BK3, HS3, HB3, HK3⟩ := hrel
          cases gk with
          | zero => exact absurd HA.out (by simp [impl_wirings.l0])
          | succ k1 =>
            have H := HA.out
            clear HA
            simp only [impl_wirings.l0] at H
            obtain ⟨j, hj⟩ : ∃ j : Int, wrap64 (p + 1) = j := ⟨_, rfl⟩
            rw [hj] at H
            have hjw : IntKind.i64.wrap (p + 1) = j := (i64_w _).trans hj
            by_cases c4 : p < wrap64 (n - 1)
            · rw [if_pos c4] at H
              have c4b : decide (p < wrap64 (n - 1)) = true := decide_eq_true c4
              clear c4
              by_cases c5 : 0 ≤ p ∧ p < (ws.length : Int) ∧ 0 ≤ j ∧ j < (ws.length : Int) ∧ hd.length < 1000000
              case neg => rw [if_neg c5] at H; exact absurd H (by simp)
              rw [if_pos c5] at H
              have HL := Aside0.mk c5
              have hR1' := Kd.R_kept HR1.out HK3.out (fun k hk => hk)
              have hR2' := Kd.R_kept HR2.out HK3.out (fun k hk => hk)
              obtain ⟨g1, c1', e1, _, _, _⟩ := Kd.R_form hR1' (by omega)
              cases e1
              obtain ⟨hx1, _⟩ := Kd.R_celln 0 hR1' p c5.1 c5.2.1
              obtain ⟨hx2, _⟩ := Kd.R_celln 0 hR1' j c5.2.2.1 c5.2.2.2.1
              replace hx1 : wr.cell? ⟨g1, p.toNat, none⟩ = some (.int .i64 (rd ws p)) := hx1
              replace hx2 : wr.cell? ⟨g1, j.toNat, none⟩ = some (.int .i64 (rd ws j)) := hx2
              have p1 := eq_true c5.1
              have q1 := eq_true c5.2.1
              have p2 := eq_true c5.2.2.1
              have q2 := eq_true c5.2.2.2.1
              have HC1 := Aside0.mk (Kd.R_reads' hR1').2
              have HC2 := Aside0.mk (Kd.R_reads' hR2').2
              clear c5 hR1' hR2'
              obtain ⟨q, hq⟩ : ∃ q : Bool, decide (rd ws p < rd ws j) = q := ⟨_, rfl⟩
              try go_wp2
              (try (go_end0; (try go_wp2)))
              have n0_ := Aside0.mk (Kd.S_drew HS3.out)
              have n1_ := Aside0.mk (below_drew1 HB3.out)
              have n2_ := Aside0.mk (show Kept w wr.drew (fun k => P0 k ∨ k = gC) from HK3.out)
              have n3_ := Aside0.mk (And.intro HC2.out.1 (Kd.C_drew HC2.out.2))
              have n4_ := Aside0.mk (And.intro HC1.out.1 (Kd.C_drew HC1.out.2))
              have n5_ := Aside0.mk (blk_drew BK3.out)
              clear HS3 HB3 HK3 HC2 HC1 BK3
              refine start_ (n := 10) (S := fun w' => w'.cell? ⟨g1, p.toNat, none⟩ = some (.int .i64 (rd ws p)) ∧ w'.cell? ⟨g1, j.toNat, none⟩ = some (.int .i64 (rd ws j))) (ds := []) #[false, false, false, false, false, false, false, false, false, false] (by kernel_rfl) rfl rfl ⟨hx1, hx2⟩ (fun hHeld => ?_); refine with_tabW wir.tab5 wir.bits5 (fun HT_ HW_ => ?_)
              generalize wr.drew = w2 at n0_ n1_ n2_ n3_ n4_ n5_ hHeld ⊢
              have HS3 := n0_
              have HB3 := n1_
              have HK3 := n2_
              have HC2 := n3_
              have HC1 := n4_
              have BK3 := n5_
              clear n0_ n1_ n2_ n3_ n4_ n5_
              refine pu 0 33 HT_ ?_
              refine pu 1 34 HT_ ?_
              refine pu 2 35 HT_ ?_
              refine pu 4 37 HT_ ?_
              refine pu 5 38 HT_ ?_
              refine pu 6 39 HT_ ?_
              refine pu 7 40 HT_ ?_
              refine take_ (i := 3) (N := some 36) (v := ?_) (a' := ?_) #[true, true, true, true, true, true, true, true, false, false] rfl rfl (take_ofW HT_.out HW_.out (by kernel_rfl)) (fun _ _ _ h => h) (Or.inl ⟨by rfl, ?_⟩) hHeld ?_ ?_
              rotate_left
              · rintro w' ⟨s0, s1⟩
                go_simp
                with_reducible rfl
              rotate_left
              · simp only [Act.put, List.setIfInBounds_toArray, List.set_cons_zero, List.set_cons_succ, i64_w, i32_w]
                rfl
              refine take_ (i := 8) (N := some 41) (v := ?_) (a' := ?_) #[true, true, true, true, true, true, true, true, true, false] rfl rfl (take_ofW HT_.out HW_.out (by kernel_rfl)) (fun _ _ _ h => h) (Or.inl ⟨by rfl, ?_⟩) hHeld ?_ ?_
              rotate_left
              · rintro w' ⟨s0, s1⟩
                go_simp
                with_reducible rfl
              rotate_left
              · simp only [Act.put, List.setIfInBounds_toArray, List.set_cons_zero, List.set_cons_succ, i64_w, i32_w]
                rfl
              refine pu 9 42 HT_ ?_
              refine done_ (done_of HT_.out (by kernel_rfl)) ?_
              cases q with
              | false =>
                have hnlt : ¬ rd ws p < rd ws j := of_decide_eq_false hq
                rw [if_neg hnlt] at H
                have H' := Aside0.mk H
                clear H hnlt hHeld hx1 hx2
                go_wp2
                go_roundg k1
                case measure => have := HK1.out; omega
                case rel => exact ⟨o, j, u', by first | rfl | (simp only [hj]) | (simp [hj]), H', ⟨by have := HK1.out; omega⟩, BK3, HS3, HB3, HK3⟩
              | true =>
                have hlt : rd ws p < rd ws j := of_decide_eq_true hq
                rw [if_pos hlt] at H
                replace H := Option.bind_eq_some_iff.mp H
                obtain ⟨nx, A50, H⟩ := H
                have A5 := Aside0.mk A50
                replace H := Option.bind_eq_some_iff.mp H
                obtain ⟨h2, A60, H⟩ := H
                have A6 := Aside0.mk A60
                by_cases c6 : nx.length = ws.length ∧ h2.length < 1000000
                case neg => rw [if_neg c6] at H; exact absurd H (by simp)
                rw [if_pos c6] at H
                replace H := Option.bind_eq_some_iff.mp H
                obtain ⟨o2, A70, H⟩ := H
                have HL2 := Aside0.mk c6
                obtain ⟨y1, hy1⟩ : ∃ y : List Int, y = nx.set p.toNat (rd nx j) := ⟨_, rfl⟩
                obtain ⟨y2, hy2⟩ : ∃ y : List Int, y = y1.set j.toNat (rd nx p) := ⟨_, rfl⟩
                rw [← hy1, ← hy2] at A70
                have A7 := Aside0.mk A70
                have NY1 := Aside0.mk hy1
                have NY2 := Aside0.mk hy2
                have H' := Aside0.mk H
                clear H hlt hHeld hx1 hx2 A50 A60 A70 c6 hy1 hy2
                go_wp2_with (first
                  | ((with_reducible refine gate_callee (f := 55) rfl ?_); refine goesL_ (some 44) rfl rfl Try.func55 (by kernel_rfl) rfl #[.slice (some ⟨g1, 0, none⟩) ws.length c1] rfl (by (try simp only [List.map_toArray, List.map_cons, List.map_nil]); first | done | rfl | (simp only [List.length_drop, List.length_take]; rfl)) ?_; (with_reducible refine (slices_Clone_int_int.calls (some ⟨g1, 0, none⟩) c1 ws nx _ HC1.out.2 HC1.out.1 A5.out).mono ?_); rintro e w44 ⟨v44, rfl, ho, hb⟩; refine ⟨_, rfl, ?_⟩; have H44 := Aside0.mk ho; have B44 := Aside0.mk hb; clear ho hb; obtain ⟨A43, c43, e43⟩ := Kd.R_slice H44.out; subst e43))
                obtain ⟨g43, c43', e43', hg43, _, _⟩ := Kd.R_form H44.out (by have := HL.out; have := HL2.out; omega)
                cases e43'
                have l1 : (nx.length : Int) = (ws.length : Int) := by have := HL2.out.1; omega
                have q3 : (p < (nx.length : Int)) = True := eq_true (by have := HL.out; omega)
                have q4 : (j < (nx.length : Int)) = True := eq_true (by have := HL.out; omega)
                have n0_ := Aside0.mk (Kd.R_drew H44.out)
                have n1_ := Aside0.mk B44.out.drew
                have HG := Aside0.mk hg43
                obtain ⟨hx4, hf4⟩ := Kd.R_celln 0 n0_.out p (by have := HL.out; omega) (by have := HL.out; omega)
                obtain ⟨hx3, hf3⟩ := Kd.R_celln 0 n0_.out j (by have := HL.out; omega) (by have := HL.out; omega)
                have m0_ := Kd.R_putn n0_.out p (rd nx j)
                rw [← NY1.out] at m0_
                have m1_ := Aside0.mk m0_
                clear m0_
                have ly : y1.length = nx.length := by rw [NY1.out, List.length_set]
                obtain ⟨hx5, hf5⟩ := Kd.R_celln 0 m1_.out j (by have := HL.out; omega) (by have := HL.out; omega)
                have m2_ := Kd.R_putn m1_.out j (rd nx p)
                rw [← NY2.out] at m2_
                have m3_ := Aside0.mk m2_
                clear m2_
                have n2_ := Aside0.mk ((n1_.out.setCell (p := ⟨g43, p.toNat, none⟩) hg43 (.int .i64 (rd nx j))).setCell (p := ⟨g43, j.toNat, none⟩) hg43 (.int .i64 (rd nx p)))
                clear H44 B44 hg43
                replace hx3 : w44.drew.cell? ⟨g43, j.toNat, none⟩ = some (.int .i64 (rd nx j)) := hx3
                replace hx4 : w44.drew.cell? ⟨g43, p.toNat, none⟩ = some (.int .i64 (rd nx p)) := hx4
                refine start_ (n := 18) (S := fun w' => w'.cell? ⟨g43, j.toNat, none⟩ = some (.int .i64 (rd nx j)) ∧ w'.cell? ⟨g43, p.toNat, none⟩ = some (.int .i64 (rd nx p))) (ds := [15, 17]) #[false, false, false, false, false, false, false, false, false, false, false, false, false, false, false, false, false, false] (by kernel_rfl) rfl rfl ⟨hx3, hx4⟩ (fun hHeld => ?_); refine with_tabW wir.tab7 wir.bits7 (fun HT_ HW_ => ?_)
                generalize w44.drew = w45 at n0_ n1_ m1_ m3_ n2_ hf3 hf4 hf5 hx3 hx4 hx5 hHeld ⊢
                refine pu 0 45 HT_ ?_
                refine pu 1 46 HT_ ?_
                refine pu 2 47 HT_ ?_
                refine pu 3 48 HT_ ?_
                refine pu 4 49 HT_ ?_
                refine pu 5 50 HT_ ?_
                refine pu 6 51 HT_ ?_
                refine pu 7 52 HT_ ?_
                refine pu 8 53 HT_ ?_
                refine pu 10 55 HT_ ?_
                refine pu 11 56 HT_ ?_
                refine pu 12 57 HT_ ?_
                refine take_ (i := 9) (N := some 54) (v := ?_) (a' := ?_) #[true, true, true, true, true, true, true, true, true, true, true, true, true, false, false, false, false, false] rfl rfl (take_ofW HT_.out HW_.out (by kernel_rfl)) (fun _ _ _ h => h) (Or.inl ⟨by rfl, ?_⟩) hHeld ?_ ?_
                rotate_left
                · rintro w' ⟨s0, s1⟩
                  go_simp
                  with_reducible rfl
                rotate_left
                · simp only [Act.put, List.setIfInBounds_toArray, List.set_cons_zero, List.set_cons_succ, i64_w, i32_w]
                  rfl
                refine take_ (i := 13) (N := some 58) (v := ?_) (a' := ?_) #[true, true, true, true, true, true, true, true, true, true, true, true, true, true, false, false, false, false] rfl rfl (take_ofW HT_.out HW_.out (by kernel_rfl)) (fun _ _ _ h => h) (Or.inl ⟨by rfl, ?_⟩) hHeld ?_ ?_
                rotate_left
                · rintro w' ⟨s0, s1⟩
                  go_simp
                  with_reducible rfl
                rotate_left
                · simp only [Act.put, List.setIfInBounds_toArray, List.set_cons_zero, List.set_cons_succ, i64_w, i32_w]
                  rfl
                refine pu 14 59 HT_ ?_
                refine last_ (i := 15) (N := none) #[true, true, true, true, true, true, true, true, true, true, true, true, true, true, true, true, false, false] rfl rfl (one_of HT_.out (by kernel_rfl)) (by decide) (fun K hK => ?_)
                refine skip_ (w1 := ?_) (by rfl) rfl ?_ ?_
                rotate_left
                · go_simp
                  rfl
                refine hK.out _ _ ?_
                clear hK K
                refine pu 16 60 HT_ ?_
                refine last_ (i := 17) (N := none) #[true, true, true, true, true, true, true, true, true, true, true, true, true, true, true, true, true, true] rfl rfl (one_of HT_.out (by kernel_rfl)) (by decide) (fun K hK => ?_)
                refine skip_ (w1 := ?_) (by rfl) rfl ?_ ?_
                rotate_left
                · go_simp
                  rfl
                refine hK.out _ _ ?_
                clear hK K
                refine done_ (done_of HT_.out (by kernel_rfl)) ?_
                clear n0_ n1_ m1_ hHeld hx3 hx4 hx5 hf3 hf4 hf5
                generalize (w45.setCell ⟨g43, p.toNat, none⟩ (.int .i64 (rd nx j))).setCell ⟨g43, j.toNat, none⟩ (.int .i64 (rd nx p)) = w46 at m3_ n2_ ⊢
                have H46 := m3_
                have B46 := n2_
                clear m3_ n2_ q3 q4
                have ly2 : nx.length = y2.length := by rw [NY2.out, List.length_set]; omega
                have HLY := Aside0.mk ly2
                clear ly ly2 l1
                go_wp2_with (first
                  | ((with_reducible refine gate_callee (f := 55) rfl ?_); refine goesL_ (some 64) rfl rfl Try.func55 (by kernel_rfl) rfl #[.slice A2 hd.length c2] rfl (by (try simp only [List.map_toArray, List.map_cons, List.map_nil]); first | done | rfl | (simp only [List.length_drop, List.length_take]; rfl)) ?_; (with_reducible refine (slices_Clone_int_int.calls A2 c2 hd h2 _ (Kd.C_below HC2.out.2 B46.out) HC2.out.1 A6.out).mono ?_); rintro e w64 ⟨v64, rfl, ho, hb⟩; refine ⟨_, rfl, ?_⟩; have H64 := Aside0.mk ho; have B64 := Aside0.mk hb; clear ho hb)
                  | ((with_reducible refine gate_builtin (b := .append) (xs := #[.tmp 64, .tmp 66]) rfl ?_); at_builtin; refine Kd.R_append (Kd.int .i64) (w0 := w46) w46.heap.size rfl (.tmp 64) (.tmp 66) 22 3 (.int .i64 0) 8 rfl Try.underlying22 info3 rfl (by decide) (by omega) v64 h2 p [.int .i64 p] (fun _ => True) (fun _ => False) rfl rfl ?aP (fun _ hk => hk.elim) ?aF ?aO ?aB ?aS ?aL ?_; (case aP => exact rfl); (case aB => exact B64.out); (case aF => exact (fun _ _ => trivial)); (case aO => exact H64.out); (case aS => exact below_size B64.out); (case aL => have := HL2.out; omega); intro v67 w67 ho hb hg_ hat_; clear hg_ hat_; have H67 := Aside0.mk ho; have B67 := Aside0.mk hb; clear ho hb H64 B64)
                  | (go_at_call 59; refine calls_of_args (args' := #[.int .i64 n, .slice (some ⟨g43, 0, none⟩) y2.length c43, v67, .pointer (some ⟨gC, 0, none⟩)]) (by rw [HLY.out]) ?_; refine (HIH.out k1 (by have := HK1.out; omega) n (.slice (some ⟨g43, 0, none⟩) y2.length c43) v67 u' gC y2 (h2 ++ [p]) o o2 w0 _ (fun k => (P0 k ∨ w.heap.size ≤ k) ∧ k < w2.heap.size) ?a1 ?a2 ?a3 ?a4 HGC.out ?a5 ?a6 A7.out).mono ?_; (case a1 => exact below_then (below_then HB3.out HB3.out.size B46.out) (Nat.le_trans HB3.out.size (below_size B46.out)) B67.out); (case a2 => have hq := Kd.R_below H46.out B67.out; rw [HLY.out] at hq; exact Kd.R_lower (Kd.R_mono (Kd.R_bound hq) (fun k hk hn => by have h1 := hk.2.1; have h3 := blk_lt BK3.out; rcases hn with hn | hn <;> omega)) HB3.out.size); (case a3 => exact Kd.R_lower (Kd.R_mono (Kd.R_bound H67.out) (fun k hk hn => by have h1 := hk.2.1; have h3 := blk_lt BK3.out; have h4 := below_size B46.out; rcases hn with hn | hn <;> omega)) (Nat.le_trans HB3.out.size (below_size B46.out))); (case a4 => exact blk_below (blk_below BK3.out B46.out) B67.out); (case a5 => exact fun h => h.1.elim HNP.out (fun h3 => by have := HLT.out; omega)); (case a6 => exact Kd.S_below (Kd.S_below (Kd.S_mono (Kd.S_bound HS3.out) (fun k hk => ⟨hk.1, hk.2.2.1⟩)) B46.out) B67.out); rintro e w69 ⟨rfl, ⟨u2, hbk, ho⟩, hb, hk⟩; have BKN := Aside0.mk hbk; have HSN := Aside0.mk (Kd.S_mono ho (ok' := fun k => P0 k ∨ w.heap.size ≤ k) (fun k hk2 => hk2.elim (fun h => h.1) (fun h => .inr (Nat.le_trans HK3.out.1 (Nat.le_trans (below_size B46.out) (Nat.le_trans (below_size B67.out) h)))))); have HBN := Aside0.mk hb; have HKN := Aside0.mk (show Kept w w69 (fun k => P0 k ∨ k = gC) from ⟨Nat.le_trans HK3.out.1 (Nat.le_trans (below_size B46.out) (Nat.le_trans (below_size B67.out) hk.1)), fun k hlt hne => (hk.2 k (Nat.lt_of_lt_of_le hlt (Nat.le_trans HK3.out.1 (Nat.le_trans (below_size B46.out) (below_size B67.out)))) (fun h => h.elim (fun h => h.1.elim (fun h3 => hne (.inl h3)) (fun h3 => by omega)) (fun h3 => hne (.inr h3)))).trans ((B67.out.block k (Nat.lt_of_lt_of_le hlt (Nat.le_trans HK3.out.1 (below_size B46.out)))).trans ((B46.out.block k (Nat.lt_of_lt_of_le hlt HK3.out.1)).trans (HK3.out.2 k hlt hne)))⟩); clear hbk ho hb hk))
                go_roundg k1
                case measure => have := HK1.out; omega
                case rel => exact ⟨o2, j, u2, by first | rfl | (simp only [hj]) | (simp [hj]), H', ⟨by have := HK1.out; omega⟩, BKN, HSN, HBN, HKN⟩
            · rw [if_neg c4] at H
              have c4b : decide (p < wrap64 (n - 1)) = false := decide_eq_false c4
              obtain rfl := Option.some.inj H
              clear H c4
              go_wp2
              first | (refine bodyPost_ret (results_none rfl _ _ _) rfl ?_) | go_end0 | ((try simp only [Exit.inBlock, Exit.then]); refine bodyPost_ret (results_none rfl _ _ _) rfl ?_)
              exact ⟨rfl, ⟨u', BK3.out, HS3.out⟩, HB3.out, HK3.out⟩
end Go.Proofs.Ytdjaiedfcmjblaa.P
