/- spec.l15Words: what a call of it computes. Conditions: the rows that came in are owned. -/
import Derived.Test.YtdjaiedfcmjblaaWAll2
import Derived.Test.YtdjaiedfcmjblaaOSwap
namespace Go.Proofs.Ytdjaiedfcmjblaa.P
open Go.RowKit Go.Proofs.YtdjaiedfcmjblaaW.PrintWords Go.Proofs.YtdjaiedfcmjblaaW.PrintLast Go.Proofs.YtdjaiedfcmjblaaW.PrintMore
attribute [local go_sem] max2_int min2_int max_two min_two max_three min_three max_four min_four
set_option linter.unusedVariables false
set_option linter.unusedSimpArgs false

mutual
def spec_l15Words.f : Nat → Int → List Int → List Int → List (List Int) → Option (List (List Int))
  | 0, _, _, _, _ => none
  | k + 1, n, ws, hd, out => if (hd.length : Int) = wrap64 (Int.tdiv (wrap64 (n * wrap64 (n - 1))) 2) then (if out.length < 1000000 ∧ hd.length < 1000000 then some (out ++ [hd]) else none) else spec_l15Words.l0 k n ws hd out 0
def spec_l15Words.l0 : Nat → Int → List Int → List Int → List (List Int) → Int → Option (List (List Int))
  | 0, _, _, _, _, _ => none
  | k + 1, n, ws, hd, out, p => if wrap64 (p + 1) < n then (if 0 ≤ p ∧ p < (ws.length : Int) ∧ 0 ≤ wrap64 (p + 1) ∧ wrap64 (p + 1) < (ws.length : Int) ∧ hd.length < 1000000 ∧ ws.length < 1000000 then (if rd ws p < rd ws (wrap64 (p + 1)) then ((spec_l12Swap.f ws p).bind fun b => (spec_l15Words.f k n b.2 (hd ++ [p]) out).bind fun o => spec_l15Words.l0 k n ws hd o (wrap64 (p + 1))) else spec_l15Words.l0 k n ws hd out (wrap64 (p + 1))) else none) else some out
end
def w15.T6 : Bool × List (List Nat × List Nat) := (true, [([], []), ([], []), ([0, 1], [0, 1]), ([2], [2]), ([], []), ([], []), ([5], [5]), ([4, 6], [4, 6]), ([7], [7]), ([3, 8], [3, 8])])
def w15.B6 : List Nat := [0, 0, 3, 7, 0, 0, 32, 112, 240, 511]
theorem w15.tab6 : rtab .any (opsOf Try.f58 6) = w15.T6 := by kernel_rfl
theorem w15.bits6 : waitsOk w15.T6.2 w15.B6 = true := by kernel_rfl
set_option maxHeartbeats 8000000 in
set_option maxRecDepth 100000 in
theorem spec_l15Words.calls (k : Nat) : ∀ (n : Int) (v1 v2 u : Value) (ws hd : List Int) (out r : List (List Int)) (w0 w : World) (P0 : Nat → Prop), Below w0.heap.size w0 w → Kd.R (Kd.int .i64) 3 w w0.heap.size (fun k => ¬ P0 k) v1 ws → Kd.R (Kd.int .i64) 3 w w0.heap.size (fun k => ¬ P0 k) v2 hd → Kd.S (Kd.slice 3 (Kd.int .i64)) 22 w w0.heap.size P0 u out → spec_l15Words.f k n ws hd out = some r →
    Calls Try.prog 58 #[.int .i64 n, v1, v2, u] w fun e w' => ∃ v' : Value, e = .returned v' ∧ Kd.S (Kd.slice 3 (Kd.int .i64)) 22 w' w0.heap.size (fun k => P0 k ∨ w.heap.size ≤ k) v' r ∧ Below w0.heap.size w0 w' ∧ Kept w w' P0 := by
  induction k using Nat.strongRecOn with
  | ind k IH =>
    intro n v1 v2 u ws hd out r w0 w P0 hB hR1 hR2 hS h
    have HIH := Aside0.mk IH
    clear IH
    cases k with
    | zero => exact absurd h (by simp [spec_l15Words.f])
    | succ k =>
      simp only [spec_l15Words.f] at h
      obtain ⟨A1, c1, e1⟩ := Kd.R_slice hR1
      subst e1
      obtain ⟨A2, c2, e2⟩ := Kd.R_slice hR2
      subst e2
      obtain ⟨A3, c3, e3⟩ := Kd.S_slice hS
      subst e3
      have HR1 := Aside0.mk hR1
      have HR2 := Aside0.mk hR2
      have HS := Aside0.mk hS
      have HB := Aside0.mk hB
      clear hR1 hR2 hS hB
      by_cases hc : (hd.length : Int) = wrap64 (Int.tdiv (wrap64 (n * wrap64 (n - 1))) 2)
      · rw [if_pos hc] at h
        by_cases hl : out.length < 1000000 ∧ hd.length < 1000000
        case neg => rw [if_neg hl] at h; exact absurd h (by simp)
        rw [if_pos hl] at h
        have c0 : ((hd.length : Int) == wrap64 (Int.tdiv (wrap64 (n * wrap64 (n - 1))) 2)) = true := beq_iff_eq.mpr hc
        have HL := Aside0.mk hl
        obtain rfl := Option.some.inj h
        clear h hc hl
        go_enter Try.func58, Try.ntmps58
        go_wp2_with (first
          | ((with_reducible refine gate_dst (N := 20) rfl ?_); refine Kd.R_lit (Kd.int .i64) _ 3 ?hg (N := 20) ?hd (xs := ([] : List Int)) (inner := []) (ok := fun _ => True) (okp := fun _ => True) ?hr ?hp (fun _ hk => hk) trivial (Below.refl _ _) (Nat.le_refl _) (by simp) ?_; (case hd => rfl); (case hg => rfl); (case hr => first | (go_simp; done) | (go_simp; rfl)); (case hp => exact (Reps.none _ _)); intro v20 w20 ho hb hg_ hnew_; clear hg_ hnew_; have H20 := Aside0.mk ho; have B20 := Aside0.mk hb; clear ho hb)
          | ((with_reducible refine gate_builtin (b := .append) (xs := #[.tmp 20, .tmp 21]) rfl ?_); at_builtin; refine Kd.R_append_rows (Kd.int .i64) (w0 := w) w.heap.size rfl (.tmp 20) (.tmp 21) 22 3 (.int .i64 0) 8 rfl Try.underlying22 info3 rfl (by decide) (by omega) v20 [] hd _ _ _ (fun _ => True) (fun _ => False) rfl rfl ?aO ?aR (fun _ _ h => h) (fun _ h => h.elim) ?aF ?aB ?aS ?aL ?_; (case aR => exact (Kd.C_below (Kd.R_reads' HR2.out).2.2 B20.out)); (case aB => exact B20.out); (case aF => exact (fun _ _ => trivial)); (case aO => exact H20.out); (case aS => exact below_size B20.out); (case aL => have := HL.out; simp; omega); intro v22 w22 ho hb hg_ hat_; clear hg_ hat_; rw [List.nil_append] at ho; have H22 := Aside0.mk ho; have B22 := Aside0.mk hb; clear ho hb H20 B20; obtain ⟨A22, c22, e22⟩ := Kd.R_slice H22.out; subst e22)
          | ((with_reducible refine gate_builtin (b := .append) (xs := #[.tmp 19, .tmp 23]) rfl ?_); at_builtin; refine Kd.S_append (Kd.slice 3 (Kd.int .i64)) (w0 := w0) w0.heap.size rfl (.tmp 19) (.tmp 23) 34 22 (.slice none 0 0) 24 rfl Try.underlying34 info22 rfl (by decide) (by omega) (.slice A3 out.length c3) out hd [.slice A22 hd.length c22] (fun k => P0 k ∨ w.heap.size ≤ k) (fun k => some k = (.slice A22 hd.length c22 : Value).ownBlock) rfl rfl ?aP ?aK ?aF ?aO ?aB ?aS ?aL ?_; (case aP => exact Kd.M_row (Kd.R_lower (Kd.R_tight rfl H22.out) (below_size HB.out))); (case aK => exact fun k hk => ⟨.inr (Kd.R_base H22.out k hk.symm), fun he => by have h1 := Kd.R_base H22.out k hk.symm; have h2 := Kd.R_lt (Kd.S_R HS.out) k he.symm; omega⟩); (case aF => exact fun k hk => .inr (Nat.le_trans (below_size B22.out) hk)); (case aO => exact Kd.S_mono (Kd.S_below (Kd.S_bound HS.out) B22.out) (fun k hk => ⟨.inl hk.1, fun he => by have h1 := Kd.R_base H22.out k he.symm; have h2 := hk.2.2.1; omega⟩)); (case aB => exact below_then HB.out HB.out.size B22.out); (case aS => exact Nat.le_trans (below_size HB.out) (below_size B22.out)); (case aL => have := HL.out; omega); intro v24 w24 ho hb hg hat_; clear hat_; have H24 := Aside0.mk ho; have B24 := Aside0.mk hb; have K24 := Aside0.mk (show Kept w w24 P0 from ⟨Nat.le_trans (below_size B22.out) hg.size, fun k hlt hne => (hg.block k (Nat.lt_of_lt_of_le hlt (below_size B22.out)) (fun he => hne ((Kd.S_R HS.out).1 k he.symm))).trans (B22.out.block k hlt)⟩); clear ho hb hg))
        go_ret
        exact ⟨_, rfl, H24.out, B24.out, K24.out⟩
      · rw [if_neg hc] at h
        have c0 : ((hd.length : Int) == wrap64 (Int.tdiv (wrap64 (n * wrap64 (n - 1))) 2)) = false := beq_eq_false_iff_ne.mpr hc
        have H' := Aside0.mk h
        clear h hc
        go_enter Try.func58, Try.ntmps58
        go_wp2
        go_loopg [3, 9] k (fun kq v3 v9 w' => ∃ (o : List (List Int)) (p : Int), v9 = .int .i64 p ∧ Aside0 (spec_l15Words.l0 kq n ws hd o p = some r) ∧ Aside0 (kq ≤ k) ∧ Aside0 (Kd.S (Kd.slice 3 (Kd.int .i64)) 22 w' w0.heap.size (fun k => P0 k ∨ w.heap.size ≤ k) v3 o) ∧ Aside0 (Below w0.heap.size w0 w') ∧ Aside0 (Kept w w' P0))
        case atStart => exact ⟨out, 0, rfl, H', ⟨Nat.le_refl _⟩, ⟨Kd.S_mono HS.out (fun k hk => .inl hk)⟩, HB, ⟨Kept.refl _ _⟩⟩
        case round =>
          clear H'
          obtain ⟨o, p, rfl, HA, HK1, HS3, HB3, HK3⟩ := hrel
          cases gk with
          | zero => exact absurd HA.out (by simp [spec_l15Words.l0])
          | succ k1 =>
            have H := HA.out
            clear HA
            simp only [spec_l15Words.l0] at H
            obtain ⟨j, hj⟩ : ∃ j : Int, wrap64 (p + 1) = j := ⟨_, rfl⟩
            rw [hj] at H
            have hjw : IntKind.i64.wrap (p + 1) = j := (i64_w _).trans hj
            by_cases c4 : j < n
            · rw [if_pos c4] at H
              have c4b : decide (j < n) = true := decide_eq_true c4
              clear c4
              by_cases c5 : 0 ≤ p ∧ p < (ws.length : Int) ∧ 0 ≤ j ∧ j < (ws.length : Int) ∧ hd.length < 1000000 ∧ ws.length < 1000000
              case neg => rw [if_neg c5] at H; exact absurd H (by simp)
              rw [if_pos c5] at H
              have HL := Aside0.mk c5
              have hR1' := Kd.R_kept HR1.out HK3.out (fun k hk => hk)
              have hR2' := Kd.R_kept HR2.out HK3.out (fun k hk => hk)
              obtain ⟨g1, c1', e1, _, _, _⟩ := Kd.R_form hR1' (by omega)
              cases e1
              obtain ⟨hx1, _⟩ := Kd.R_celln 0 hR1' p c5.1 c5.2.1
              obtain ⟨hx2, _⟩ := Kd.R_celln 0 hR1' j c5.2.2.1 c5.2.2.2.1
              replace hx1 : wr.cell? ⟨g1, p.toNat, none⟩ = some (.int .i64 (rd ws p)) := hx1
              replace hx2 : wr.cell? ⟨g1, j.toNat, none⟩ = some (.int .i64 (rd ws j)) := hx2
              have p1 := eq_true c5.1
              have q1 := eq_true c5.2.1
              have p2 := eq_true c5.2.2.1
              have q2 := eq_true c5.2.2.2.1
              have HC1 := Aside0.mk (Kd.R_reads' hR1').2.2
              have HC2 := Aside0.mk (Kd.R_reads' hR2').2.2
              clear c5 hR1' hR2'
              obtain ⟨q, hq⟩ : ∃ q : Bool, decide (rd ws p < rd ws j) = q := ⟨_, rfl⟩
              try go_wp2
              (try (go_end0; (try go_wp2)))
              have n0_ := Aside0.mk (Kd.S_drew HS3.out)
              have n1_ := Aside0.mk (below_drew1 HB3.out)
              have n2_ := Aside0.mk (show Kept w wr.drew P0 from HK3.out)
              have n3_ := Aside0.mk (Kd.C_drew HC2.out)
              have n4_ := Aside0.mk (Kd.C_drew HC1.out)
              clear HS3 HB3 HK3 HC2 HC1
              refine start_ (n := 10) (S := fun w' => w'.cell? ⟨g1, p.toNat, none⟩ = some (.int .i64 (rd ws p)) ∧ w'.cell? ⟨g1, j.toNat, none⟩ = some (.int .i64 (rd ws j))) (ds := []) #[false, false, false, false, false, false, false, false, false, false] (by kernel_rfl) rfl rfl ⟨hx1, hx2⟩ (fun hHeld => ?_); refine with_tabW w15.tab6 w15.bits6 (fun HT_ HW_ => ?_)
              generalize wr.drew = w2 at n0_ n1_ n2_ n3_ n4_ hHeld ⊢
              have HS3 := n0_
              have HB3 := n1_
              have HK3 := n2_
              have HC2 := n3_
              have HC1 := n4_
              clear n0_ n1_ n2_ n3_ n4_
              refine pu 0 31 HT_ ?_
              refine pu 1 32 HT_ ?_
              refine pu 2 33 HT_ ?_
              refine pu 4 35 HT_ ?_
              refine pu 5 36 HT_ ?_
              refine pu 6 37 HT_ ?_
              refine pu 7 38 HT_ ?_
              refine take_ (i := 3) (N := some 34) (v := ?_) (a' := ?_) #[true, true, true, true, true, true, true, true, false, false] rfl rfl (take_ofW HT_.out HW_.out (by kernel_rfl)) (fun _ _ _ h => h) (Or.inl ⟨by rfl, ?_⟩) hHeld ?_ ?_
              rotate_left
              · rintro w' ⟨s0, s1⟩
                go_simp
                with_reducible rfl
              rotate_left
              · simp only [Act.put, List.setIfInBounds_toArray, List.set_cons_zero, List.set_cons_succ, i64_w, i32_w]
                rfl
              refine take_ (i := 8) (N := some 39) (v := ?_) (a' := ?_) #[true, true, true, true, true, true, true, true, true, false] rfl rfl (take_ofW HT_.out HW_.out (by kernel_rfl)) (fun _ _ _ h => h) (Or.inl ⟨by rfl, ?_⟩) hHeld ?_ ?_
              rotate_left
              · rintro w' ⟨s0, s1⟩
                go_simp
                with_reducible rfl
              rotate_left
              · simp only [Act.put, List.setIfInBounds_toArray, List.set_cons_zero, List.set_cons_succ, i64_w, i32_w]
                rfl
              refine pu 9 40 HT_ ?_
              refine done_ (done_of HT_.out (by kernel_rfl)) ?_
              have HJ := Aside0.mk (And.intro hj hjw)
              cases q with
              | false =>
                have hnlt : ¬ rd ws p < rd ws j := of_decide_eq_false hq
                rw [if_neg hnlt] at H
                have H' := Aside0.mk H
                clear H hnlt hHeld hx1 hx2
                go_wp2
                go_roundg k1
                case measure => have := HK1.out; omega
                case rel => exact ⟨o, j, by first | rfl | (simp only [hj]) | (simp [hj]), H', ⟨by have := HK1.out; omega⟩, HS3, HB3, HK3⟩
              | true =>
                have hlt : rd ws p < rd ws j := of_decide_eq_true hq
                rw [if_pos hlt] at H
                replace H := Option.bind_eq_some_iff.mp H
                obtain ⟨⟨b1, b2⟩, A50, H⟩ := H
                have A5 := Aside0.mk A50
                replace H := Option.bind_eq_some_iff.mp H
                obtain ⟨o2, A60, H⟩ := H
                have A6 := Aside0.mk A60
                have H' := Aside0.mk H
                clear H hlt hHeld hx1 hx2 A50 A60
                go_wp2_with (first
                  | ((with_reducible refine gate_dst (N := 41) rfl ?_); refine Kd.R_lit (Kd.int .i64) _ 3 ?hg (N := 41) ?hd (xs := ([] : List Int)) (inner := []) (ok := fun _ => True) (okp := fun _ => True) ?hr ?hp (fun _ hk => hk) trivial (Below.refl _ _) (Nat.le_refl _) (by simp) ?_; (case hd => rfl); (case hg => rfl); (case hr => first | (go_simp; done) | (go_simp; rfl)); (case hp => exact (Reps.none _ _)); intro v41 w41 ho hb hg_ hnew_; clear hg_ hnew_; have H41 := Aside0.mk ho; have B41 := Aside0.mk hb; clear ho hb)
                  | ((with_reducible refine gate_builtin (b := .append) (xs := #[.tmp 41, .tmp 42]) rfl ?_); at_builtin; refine Kd.R_append_rows (Kd.int .i64) (w0 := w2) w2.heap.size rfl (.tmp 41) (.tmp 42) 22 3 (.int .i64 0) 8 rfl Try.underlying22 info3 rfl (by decide) (by omega) v41 [] ws _ _ _ (fun _ => True) (fun _ => False) rfl rfl ?aO ?aR (fun _ _ h => h) (fun _ h => h.elim) ?aF ?aB ?aS ?aL ?_; (case aR => exact (Kd.C_below HC1.out B41.out)); (case aB => exact B41.out); (case aF => exact (fun _ _ => trivial)); (case aO => exact H41.out); (case aS => exact below_size B41.out); (case aL => have := HL.out; simp; omega); intro v43 w43 ho hb hg_ hat_; clear hg_ hat_; rw [List.nil_append] at ho; have H43 := Aside0.mk ho; have B43 := Aside0.mk hb; clear ho hb H41 B41; obtain ⟨A43, c43, e43⟩ := Kd.R_slice H43.out; subst e43)
                  | ((with_reducible refine gate_callee (f := 50) rfl ?_); refine goesL_ (some 46) rfl rfl Try.func50 (by kernel_rfl) rfl #[.slice A43 ws.length c43, .int .i64 p] rfl (by (try simp only [List.map_toArray, List.map_cons, List.map_nil]); first | done | rfl | (simp only [List.length_drop, List.length_take]; rfl)) ?_; (with_reducible refine (spec_l12Swap.calls (fun _ => True) (.slice A43 ws.length c43) ws p b1 b2 w2 _ B43.out H43.out A5.out).mono ?_); rintro e w46 ⟨rfl, ho, hb, hk_⟩; refine ⟨_, rfl, ?_⟩; have H46 := Aside0.mk (Kd.R_mono ho (ok' := fun _ => True) (fun _ _ => trivial)); have B46 := Aside0.mk hb; clear ho hb hk_ H43 B43)
                  | ((with_reducible refine gate_dst (N := 49) rfl ?_); refine Kd.R_lit (Kd.int .i64) _ 3 ?hg (N := 49) ?hd (xs := ([] : List Int)) (inner := []) (ok := fun _ => True) (okp := fun _ => True) ?hr ?hp (fun _ hk => hk) trivial (Below.refl _ _) (Nat.le_refl _) (by simp) ?_; (case hd => rfl); (case hg => rfl); (case hr => first | (go_simp; done) | (go_simp; rfl)); (case hp => exact (Reps.none _ _)); intro v49 w49 ho hb hg_ hnew_; clear hg_ hnew_; have H49 := Aside0.mk ho; have B49 := Aside0.mk hb; clear ho hb)
                  | ((with_reducible refine gate_builtin (b := .append) (xs := #[.tmp 49, .tmp 50]) rfl ?_); at_builtin; refine Kd.R_append_rows (Kd.int .i64) (w0 := w46) w46.heap.size rfl (.tmp 49) (.tmp 50) 22 3 (.int .i64 0) 8 rfl Try.underlying22 info3 rfl (by decide) (by omega) v49 [] hd _ _ _ (fun _ => True) (fun _ => False) rfl rfl ?aO ?aR (fun _ _ h => h) (fun _ h => h.elim) ?aF ?aB ?aS ?aL ?_; (case aR => exact (Kd.C_below (Kd.C_below HC2.out B46.out) B49.out)); (case aB => exact B49.out); (case aF => exact (fun _ _ => trivial)); (case aO => exact H49.out); (case aS => exact below_size B49.out); (case aL => have := HL.out; simp; omega); intro v51 w51 ho hb hg_ hat_; clear hg_ hat_; rw [List.nil_append] at ho; have H51 := Aside0.mk ho; have B51 := Aside0.mk hb; clear ho hb H49 B49; obtain ⟨A51, c51, e51⟩ := Kd.R_slice H51.out; subst e51)
                  | ((with_reducible refine gate_builtin (b := .append) (xs := #[.tmp 51, .tmp 53]) rfl ?_); at_builtin; refine Kd.R_append (Kd.int .i64) (w0 := w46) w46.heap.size rfl (.tmp 51) (.tmp 53) 22 3 (.int .i64 0) 8 rfl Try.underlying22 info3 rfl (by decide) (by omega) (.slice A51 hd.length c51) hd p [.int .i64 p] (fun _ => True) (fun _ => False) rfl rfl ?aP (fun _ hk => hk.elim) ?aF ?aO ?aB ?aS ?aL ?_; (case aP => exact rfl); (case aB => exact B51.out); (case aF => exact (fun _ _ => trivial)); (case aO => exact H51.out); (case aS => exact below_size B51.out); (case aL => have := HL.out; omega); intro v54 w54 ho hb hg_ hat_; clear hg_ hat_; have H54 := Aside0.mk ho; have B54 := Aside0.mk hb; clear ho hb H51 B51)
                  | (go_at_call 58; refine (HIH.out k1 (by have := HK1.out; omega) n (.slice A43 ws.length c43) v54 u3 b2 (hd ++ [p]) o o2 w0 _ (fun k => (P0 k ∨ w.heap.size ≤ k) ∧ k < w2.heap.size) ?a1 ?a2 ?a3 ?a4 A6.out).mono ?_; (case a1 => exact below_then (below_then HB3.out HB3.out.size B46.out) (Nat.le_trans HB3.out.size (below_size B46.out)) B54.out); (case a2 => exact Kd.R_lower (Kd.R_mono (Kd.R_bound (Kd.R_below H46.out B54.out)) (fun k hk hn => by have h1 := hk.2.1; have h2 := hn.2; omega)) HB3.out.size); (case a3 => exact Kd.R_lower (Kd.R_mono (Kd.R_bound H54.out) (fun k hk hn => by have h1 := hk.2.1; have h2 := hn.2; have h3 := below_size B46.out; omega)) (Nat.le_trans HB3.out.size (below_size B46.out))); (case a4 => exact Kd.S_below (Kd.S_below (Kd.S_mono (Kd.S_bound HS3.out) (fun k hk => ⟨hk.1, hk.2.2.1⟩)) B46.out) B54.out); rintro e w56 ⟨v56, rfl, ho, hb, hk⟩; have HSN := Aside0.mk (Kd.S_mono ho (ok' := fun k => P0 k ∨ w.heap.size ≤ k) (fun k hk2 => hk2.elim (fun h => h.1) (fun h => .inr (Nat.le_trans HK3.out.1 (Nat.le_trans (below_size B46.out) (Nat.le_trans (below_size B54.out) h)))))); have HBN := Aside0.mk hb; have HKN := Aside0.mk (show Kept w w56 P0 from ⟨Nat.le_trans HK3.out.1 (Nat.le_trans (below_size B46.out) (Nat.le_trans (below_size B54.out) hk.1)), fun k hlt hne => (hk.2 k (Nat.lt_of_lt_of_le hlt (Nat.le_trans HK3.out.1 (Nat.le_trans (below_size B46.out) (below_size B54.out)))) (fun h => h.1.elim hne (fun h2 => by omega))).trans ((B54.out.block k (Nat.lt_of_lt_of_le hlt (Nat.le_trans HK3.out.1 (below_size B46.out)))).trans ((B46.out.block k (Nat.lt_of_lt_of_le hlt HK3.out.1)).trans (HK3.out.2 k hlt hne)))⟩); clear ho hb hk))
                go_roundg k1
                case measure => have := HK1.out; omega
                case rel => exact ⟨o2, j, by first | rfl | (simp only [hj]) | (simp [hj]), H', ⟨by have := HK1.out; omega⟩, HSN, HBN, HKN⟩
            · rw [if_neg c4] at H
              have c4b : decide (j < n) = false := decide_eq_false c4
              obtain rfl := Option.some.inj H
              clear H c4
              go_wp2
              go_ret
              exact ⟨_, rfl, HS3.out, HB3.out, HK3.out⟩

end Go.Proofs.Ytdjaiedfcmjblaa.P
