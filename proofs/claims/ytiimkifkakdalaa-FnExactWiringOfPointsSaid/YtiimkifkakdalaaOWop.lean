/- impl.WiringOfPoints: what a call of it computes. Conditions: none. -/
import Derived.Test.YtiimkifkakdalaaOStabF
import Derived.Test.YtiimkifkakdalaaP54
import Derived.Test.YtiimkifkakdalaaP68
import Derived.Test.YtiimkifkakdalaaP62
import Derived.Test.YtiimkifkakdalaaWAll2
import Derived.Laws.CopyOwn
namespace Go.Proofs.Ytiimkifkakdalaa.P
open Go.RowKit Go.Proofs.YtiimkifkakdalaaW.PrintWords Go.Proofs.YtiimkifkakdalaaW.PrintLast Go.Proofs.YtiimkifkakdalaaW.PrintMore
set_option linter.unusedVariables false
set_option linter.unusedSimpArgs false

/-- The pairs of the edges, if no two points lie above each other. -/
def wopF (l : List S64) : List S72 → List (List Int) → Option (List (List Int))
  | [], acc => some acc
  | e :: es, acc => if (rd_T64 l e.f0).f0 = (rd_T64 l e.f1).f0 then none else wopF l es (acc ++ [[e.f0, e.f1]])
def wopOk (n : Nat) (es : List S72) : Prop := (∀ e ∈ es, (0 ≤ e.f0 ∧ e.f0 < (n : Int)) ∧ (0 ≤ e.f1 ∧ e.f1 < (n : Int))) ∧ 0 < es.length ∧ es.length < 20
instance (n : Nat) (es : List S72) : Decidable (wopOk n es) := by unfold wopOk; infer_instance
abbrev wopPr (n : Nat) (r : List Int) : Prop := ∃ a b : Int, r = [a, b] ∧ (0 ≤ a ∧ a < (n : Int)) ∧ (0 ≤ b ∧ b < (n : Int))
theorem heap_alloc_lt (w : World) (o : Obj) : w.heap.size < (w.alloc o).heap.size := (Array.getElem?_eq_some_iff.1 (heap_alloc_new w o)).1
def wopEnd (k : Nat) (p : List S64) : Option (List (List Int)) → Option (List Int × Bool)
  | none => some ([], false)
  | some rows => impl_WiringFrom.f k (p.length : Int) (bSort (fun x y => decide (slR p x y < 0)) rows)
def impl_WiringOfPoints.f (k : Nat) (l0 : List S64) : Option (List Int × Bool) := (impl_ArePoints.f k l0).bind fun b => if b = true then (if 6 < (l0.length : Int) then some ([], false) else (impl_SortPoints.f k l0).bind fun p => (impl_edgesOf.f k (p.length : Int)).bind fun es => if wopOk p.length es then wopEnd k p (wopF p es []) else none) else some ([], false)
theorem wopRes : (Try.f30).results = #[.tmp 2, .tmp 3] := rfl
theorem infoWp : (Try.prog.info? 25).map (fun i => (i.zero, i.size, i.bytes)) = some (some (.slice none 0 0), 1, 24) := by kernel_rfl
theorem wopEnd.mono (k : Nat) (p : List S64) (q : Option (List (List Int))) : LeO (wopEnd k p q) (wopEnd (k + 1) p q) := by
  cases q with
  | none => exact LeO.refl _
  | some rows => exact impl_WiringFrom.mono _ _ _
theorem impl_WiringOfPoints.mono : ∀ a0 k, LeO (impl_WiringOfPoints.f k a0) (impl_WiringOfPoints.f (k + 1) a0) := by
  intro a0 k
  unfold impl_WiringOfPoints.f
  repeat' first
    | (with_reducible exact wopEnd.mono _ _ _)
    | (with_reducible exact impl_ArePoints.mono _ _)
    | (with_reducible exact impl_SortPoints.mono _ _)
    | (with_reducible exact impl_edgesOf.mono _ _)
    | (with_reducible exact LeO.refl _)
    | (with_reducible refine LeO.ite ?_ ?_)
    | (with_reducible refine LeO.bind ?_ (fun _ => ?_))
def wop.T8 : Bool × List (List Nat × List Nat) := (true, [([], []), ([], []), ([1], [1]), ([0, 2], [0, 2]), ([3], [3]), ([4], [4]), ([], []), ([], []), ([7], [7]), ([6, 8], [6, 8]), ([9], [9]), ([10], [10]), ([5, 11], [5, 11])])
def wop.B8 : List Nat := [0, 0, 2, 7, 15, 31, 0, 0, 128, 448, 960, 1984, 4095]
theorem wop.tab8 : rtab .any (opsOf Try.f30 8) = wop.T8 := by kernel_rfl
theorem wop.bits8 : waitsOk wop.T8.2 wop.B8 = true := by kernel_rfl
set_option maxHeartbeats 16000000 in
set_option maxRecDepth 100000 in
theorem impl_WiringOfPoints.calls (k : Nat) (A0 : Option Addr) (c0 : Nat) (l0 : List S64) (r1 : List Int) (r2 : Bool) (w : World) (hr0 : Kd.C k64 w A0 l0.length l0) (hc0 : l0.length ≤ c0) (h : impl_WiringOfPoints.f k l0 = some (r1, r2)) :
    Calls Try.prog 30 #[.slice A0 l0.length c0] w fun e w' => ∃ v : Value, e = .returned (.tuple #[v, .bool r2]) ∧ Kd.R (Kd.int .i64) 3 w' w.heap.size (fun _ => True) v r1 ∧ Below w.heap.size w w' := by
  have hu64 := Try.underlying64
  have hu72 := Try.underlying72
  have hmf : ∀ (fn : Fn) (first cap : Array Value) (w : World), (Instr.makeFunc fn first cap).run Try.prog w = .ok (.func fn first cap) w := fun _ _ _ _ => rfl
  have HB := Aside0.mk (Below.refl w.heap.size w)
  have HR := Aside0.mk (And.intro hr0 hc0)
  clear hr0 hc0
  have H := h
  clear h
  unfold impl_WiringOfPoints.f at H
  obtain ⟨b, A1, H⟩ := Option.bind_eq_some_iff.mp H
  replace A1 := Aside0.mk A1
  cases b with
  | false =>
    rw [if_neg (by simp)] at H
    cases H
    go_enter Try.func30, Try.ntmps30
    go_wp2_with (first | (go_at_call 56; (with_reducible refine (impl_ArePoints.calls k _ _ l0 false _ HR.out.1 HR.out.2 A1.out).mono ?_); rintro e w6 ⟨rfl, hb6⟩; replace HB := bs HB hb6))
    (try simp only [Exit.inBlock, Exit.then])
    refine bodyPost_ret (results_tmp2 wopRes _ _ _) (by rfl) ?_
    exact ⟨_, rfl, Kd.R_nil .., bl HB⟩
  | true =>
    rw [if_pos rfl] at H
    by_cases hl : 6 < (l0.length : Int)
    · rw [if_pos hl] at H
      have c14 : decide (6 < (l0.length : Int)) = true := decide_eq_true hl
      cases H
      clear hl
      go_enter Try.func30, Try.ntmps30
      go_wp2_with (first | (go_at_call 56; ((with_reducible refine (impl_ArePoints.calls k _ _ l0 true _ HR.out.1 HR.out.2 A1.out).mono ?_); rintro e w6 ⟨rfl, hb6⟩; replace HB := bs HB hb6; have HR6 := Aside0.mk (Kd.C_below HR.out.1 hb6))))
      (try simp only [Exit.inBlock, Exit.then])
      refine bodyPost_ret (results_tmp2 wopRes _ _ _) (by rfl) ?_
      exact ⟨_, rfl, Kd.R_nil .., bl HB⟩
    rw [if_neg hl] at H
    have c14 : decide (6 < (l0.length : Int)) = false := decide_eq_false hl
    clear hl
    obtain ⟨p, A2, H⟩ := Option.bind_eq_some_iff.mp H
    obtain ⟨es, A3, H⟩ := Option.bind_eq_some_iff.mp H
    by_cases hok : wopOk p.length es
    case neg => rw [if_neg hok] at H; exact absurd H (by simp)
    rw [if_pos hok] at H
    replace A2 := Aside0.mk A2
    replace A3 := Aside0.mk A3
    have HP0 : Aside0 (0 < p.length) := ⟨by
      obtain ⟨h1, h2, _⟩ := hok
      have := (h1 _ (List.getElem_mem h2)).1
      omega⟩
    have HOK := Aside0.mk hok
    obtain ⟨q, hq⟩ : ∃ q, wopF p es [] = q := ⟨_, rfl⟩
    rw [hq] at H
    have HQ := Aside0.mk hq
    have HF := Aside0.mk H
    clear hok hq H
    go_enter Try.func30, Try.ntmps30
    go_wp2_with (first | (go_at_call 56; ((with_reducible refine (impl_ArePoints.calls k _ _ l0 true _ HR.out.1 HR.out.2 A1.out).mono ?_); rintro e w6 ⟨rfl, hb6⟩; replace HB := bs HB hb6; have HR6 := Aside0.mk (Kd.C_below HR.out.1 hb6))) | (go_at_call 57; ((with_reducible refine (impl_SortPoints.calls k _ _ l0 p _ HR6.out HR.out.2 A2.out).mono ?_); rintro e w7 ⟨v7, rfl, ho7, hb7⟩; obtain ⟨g0, cp, rfl, hpl, hpg, hpc⟩ := Kd.R_form ho7 HP0.out; have HO7 := Aside0.mk ho7; have hz7 : (w7.alloc (.cells #[.slice (some ⟨g0, 0, none⟩) p.length cp] 40 (0, 0))).cell? ⟨w7.heap.size, 0, none⟩ = some (.slice (some ⟨g0, 0, none⟩) p.length cp) := (blk_cell (heap_alloc_new w7 _) 0).trans rfl; replace HB := bs HB hb7; clear hb7 ho7)) | (go_at_call 58; ((with_reducible refine (impl_edgesOf.calls k (p.length : Int) es _ A3.out).mono ?_); rintro e w8 ⟨v8, rfl, ho8, hb8⟩; have HE := Aside0.mk ho8; have HG := Aside0.mk ((hb8.cell (World.block_lt_of_cell? _ _ hz7)).trans hz7); have HP := Aside0.mk (Kd.C_below (Kd.C_alloc (Kd.R_reads' HO7.out).2.2 _) hb8); have HGL := Aside0.mk (And.intro (Nat.lt_of_lt_of_le (heap_alloc_lt w7 _) (below_size hb8)) (Nat.lt_of_lt_of_le (Nat.lt_trans hpg (heap_alloc_lt w7 _)) (below_size hb8))); replace HB := Aside0.mk (below_then (below_alloc HB.out _) (below_size (below_alloc HB.out _)) hb8); clear ho8 hb8 hz7 HO7 hpc hpg; obtain ⟨Ae, ce, ee⟩ := Kd.R_slice HE.out; subst ee)))
    generalize w7.heap.size = gp at HG HGL ⊢
    obtain ⟨P, hPe⟩ : ∃ P : Addr, P = ⟨g0, 0, none⟩ := ⟨_, rfl⟩
    have HGQ : Aside0 (gp < w8.heap.size ∧ P.block < w8.heap.size) := ⟨HGL.out.1, by rw [hPe]; exact HGL.out.2⟩
    rw [← hPe] at HG HP
    clear hPe HGL
    go_loopg [5, 22] es.length (fun gg v5 v22 w' => ∃ (rows : List (List Int)) (i : Int), v22 = .int .i64 i ∧ Aside0 (0 ≤ i ∧ i + (gg : Int) = (es.length : Int) ∧ (rows.length : Int) = i ∧ wopF p (es.drop i.toNat) rows = q ∧ ∀ r ∈ rows, wopPr p.length r) ∧ Aside0 (Kd.S (Kd.slice 3 (Kd.int .i64)) 25 w' w8.heap.size (fun _ => True) v5 rows) ∧ Aside0 (Below w8.heap.size w8 w'))
    case atStart => exact ⟨[], 0, rfl, ⟨Int.le_refl _, by omega, rfl, HQ.out, fun r hr => absurd hr (by simp)⟩, ⟨Kd.S_nil _ _ _ _ _⟩, ⟨Below.refl _ _⟩⟩
    case round =>
      clear HQ
      obtain ⟨rows, i, rfl, HX, HS, HBL⟩ := hrel
      have hzr : wr.cell? ⟨gp, 0, none⟩ = some (.slice (some P) p.length cp) := (HBL.out.cell (World.block_lt_of_cell? _ _ HG.out)).trans HG.out
      by_cases hlt : i < (es.length : Int)
      case neg =>
        have c23 : decide (i < (es.length : Int)) = false := decide_eq_false hlt
        have hqe : q = some rows := by
          have := HX.out.2.2.2.1
          rw [List.drop_eq_nil_of_le (by have := HX.out.1; omega)] at this
          exact this.symm
        have HF2 := Aside0.mk (show impl_WiringFrom.f k (p.length : Int) (bSort (fun x y => decide (slR p x y < 0)) rows) = some (r1, r2) from by have h := HF.out; rw [hqe] at h; exact h)
        clear HF
        have HRL : Aside0 (0 < rows.length ∧ rows.length < 20) := ⟨by have h1 := HX.out.1; have h2 := HX.out.2.1; have h3 := HX.out.2.2.1; have h4 := HOK.out.2; omega⟩
        have HGP : Aside0 (some gp ≠ u5.ownBlock ∧ some P.block ≠ u5.ownBlock) := ⟨fun he => by have h1 := Kd.R_base (Kd.S_R HS.out) gp he.symm; have h2 := HGQ.out.1; omega, fun he => by have h1 := Kd.R_base (Kd.S_R HS.out) P.block he.symm; have h2 := HGQ.out.2; omega⟩
        clear hlt hqe
        go_wp2_with (first | (go_at_call 59; ((with_reducible refine (SortStable_rows.calls u5 rows w8 _ (fun _ => True) gp p.length cp P p HBL.out HS.out HRL.out HX.out.2.2.2.2 hzr (Kd.C_below HP.out HBL.out) HGP.out.1 HGP.out.2).mono ?_); rintro e w12 ⟨rfl, ho, hb, _⟩; have HS2 := Aside0.mk ho; have HB2 := Aside0.mk hb; have hz12 := (hb.cell (World.block_lt_of_cell? _ _ HG.out)).trans HG.out; clear ho hb hzr; obtain ⟨A5, c5, e5⟩ := Kd.S_slice HS2.out; subst e5)) | (go_at_call 62; ((with_reducible refine (impl_WiringFrom.calls k (p.length : Int) A5 c5 (bSort (fun x y => decide (slR p x y < 0)) rows) r1 r2 _ (Kd.S_reads' HS2.out).2.2 (Kd.S_reads' HS2.out).2.1 HF2.out).mono ?_); rintro e w13 ⟨v13, rfl, ho, hb⟩; have HO13 := Aside0.mk ho; have HB13 := Aside0.mk (below_then HB2.out (below_size HB2.out) hb); clear ho hb)))
        (try simp only [Exit.inBlock, Exit.then])
        refine bodyPost_ret (results_tmp2 wopRes _ _ _) (by rfl) ?_
        exact ⟨_, rfl, Kd.R_lower HO13.out (Nat.le_trans (below_size HB.out) (below_size HB2.out)), below_then HB.out (below_size HB.out) HB13.out⟩
      case pos =>
        have hxl : i.toNat < es.length := by have := HX.out.1; omega
        have hmem := HOK.out.1 _ (List.getElem_mem hxl)
        obtain ⟨hx0, hxg, hrl, hqq, hpr⟩ := HX.out
        rw [List.drop_eq_getElem_cons hxl, wopF] at hqq
        obtain ⟨ad, e0, z0, z1⟩ := at_T72 (Kd.R_reads' (Kd.R_below HE.out HBL.out)).2.2 i hx0 hlt
        have er : rd_T72 es i = es[i.toNat] := by unfold rd_T72; rw [List.getD_eq_getElem?_getD, List.getElem?_eq_getElem hxl]; rfl
        rw [er] at z0 z1
        cases e0
        generalize es[i.toNat] = ee at hqq hmem z0 z1
        obtain ⟨f0, f1⟩ := ee
        simp only at hqq hmem z0 z1
        have c23 : decide (i < (es.length : Int)) = true := decide_eq_true hlt
        obtain ⟨adp, e1, p0, _⟩ := at_T64 (Kd.C_below HP.out HBL.out) f0 hmem.1.1 hmem.1.2
        cases e1
        obtain ⟨adp, e1, p1, _⟩ := at_T64 (Kd.C_below HP.out HBL.out) f1 hmem.2.1 hmem.2.2
        cases e1
        have KP := Aside0.mk (And.intro p0 p1)
        obtain ⟨y, hy⟩ : ∃ y_ : List Int, y_ = [f0, f1] := ⟨_, rfl⟩
        have NY := Aside0.mk hy
        obtain ⟨gk', hgk⟩ : ∃ q, gk = q + 1 := ⟨gk - 1, by omega⟩
        have hnv : wrap64 (i + 1) = i + 1 := by have := HOK.out.2.2; unfold wrap64; omega
        have hnw : IntKind.i64.wrap (i + 1) = i + 1 := (i64_w _).trans hnv
        have HG1 : Aside0 (0 ≤ i + 1 ∧ i + 1 + (gk' : Int) = (es.length : Int) ∧ ((rows ++ [y]).length : Int) = i + 1 ∧ (i + 1).toNat = i.toNat + 1 ∧ gk' < gk) := ⟨by omega, by omega, by rw [List.length_append, List.length_singleton]; omega, by omega, by omega⟩
        have HPR : Aside0 (∀ r ∈ rows ++ [y], wopPr p.length r) := ⟨fun r hr => by
          rcases List.mem_append.mp hr with hr | hr
          · exact hpr r hr
          · rw [List.mem_singleton.mp hr]
            exact ⟨f0, f1, hy, hmem⟩⟩
        rw [← hy] at hqq
        have HQ2 := Aside0.mk hqq
        have pi := eq_true hx0
        have qi := eq_true hlt
        have pa := eq_true hmem.1.1
        have qa := eq_true hmem.1.2
        have pb := eq_true hmem.2.1
        have qb := eq_true hmem.2.2
        clear hqq hmem hpr hrl hxg hgk hy hx0 hlt er hxl p0 p1
        go_wp2_with (first | ((with_reducible refine gate_dst (N := 7) rfl ?_); refine bx 7 #[.int .i64 0, .int .i64 0] 72 ?_; intro g7 hg w9 hbox hb; have GE7 := Aside0.mk (show wr.heap.size ≤ g7 by rw [hg]; exact Nat.le_refl _); have BK7 := Aside0.mk hbox; have HBr := Aside0.mk hb; clear hb hbox hg) | ((with_reducible refine gate_store (t := 72) (p := 7) rfl ?_); (refine wpList_store_row rfl 72 (.tmp 7) (.tmp 25) rfl g7 #[.int .i64 f0, .int .i64 f1] rfl rfl 72 #[.int .i64 0, .int .i64 0] BK7.out (by kernel_rfl) rfl (by simp [Value.oneCell']) ?_; have n0_ := Aside0.mk (setRow_heap _ g7 _ #[.int .i64 f0, .int .i64 f1] _ _ BK7.out); have n1_ := Aside0.mk (below_setRow HBr.out GE7.out #[.int .i64 f0, .int .i64 f1]); clear BK7 HBr; generalize w9.setRow g7 #[.int .i64 f0, .int .i64 f1] = w10 at n0_ n1_ ⊢; have BK7 := n0_; have HBr := n1_; clear n0_ n1_)))
        have k0 := (HBr.out.cell (World.block_lt_of_cell? _ _ hzr)).trans hzr
        have k1' := bc BK7 0
        have k2 := bc BK7 1
        have k3 := (HBr.out.cell (World.block_lt_of_cell? _ _ KP.out.1)).trans KP.out.1
        have k4 := (HBr.out.cell (World.block_lt_of_cell? _ _ KP.out.2)).trans KP.out.2
        have n0_ := Aside0.mk (blk_drew BK7.out)
        have n1_ := Aside0.mk (below_drew1 HBr.out)
        clear BK7 HBr
        refine start_ (n := 13) (S := fun w' => w'.cell? ⟨gp, 0, none⟩ = some (.slice (some P) p.length cp) ∧ w'.cell? ⟨g7, 0, none⟩ = some (.int .i64 f0) ∧ w'.cell? ⟨g7, 1, none⟩ = some (.int .i64 f1) ∧ w'.cell? (P.add (f0.toNat * 2)) = some (.int .i64 (rd_T64 p f0).f0) ∧ w'.cell? (P.add (f1.toNat * 2)) = some (.int .i64 (rd_T64 p f1).f0)) (ds := []) #[false, false, false, false, false, false, false, false, false, false, false, false, false] (by kernel_rfl) rfl rfl ⟨k0, k1', k2, k3, k4⟩ (fun hHeld => ?_); refine with_tabW wop.tab8 wop.bits8 (fun HT_ HW_ => ?_)
        generalize w10.drew = w11 at n0_ n1_ hHeld ⊢
        have BK7 := n0_
        have HBr := n1_
        clear n0_ n1_ k0 k1' k2 k3 k4
        refine pu 1 27 HT_ ?_
        refine pu 7 33 HT_ ?_
        refine take_ (i := 0) (N := some 26) (v := ?_) (a' := ?_) #[true, true, false, false, false, false, false, true, false, false, false, false, false] rfl rfl (take_ofW HT_.out HW_.out (by kernel_rfl)) (fun _ _ _ h => h) (Or.inl ⟨by rfl, ?_⟩) hHeld ?_ ?_
        rotate_left
        · rintro w' ⟨s0, s1, s2, s3, s4⟩
          go_simp
          with_reducible rfl
        rotate_left
        · simp only [Act.put, List.setIfInBounds_toArray, List.set_cons_zero, List.set_cons_succ, i64_w, i32_w]
          rfl
        refine take_ (i := 2) (N := some 28) (v := ?_) (a' := ?_) #[true, true, true, false, false, false, false, true, false, false, false, false, false] rfl rfl (take_ofW HT_.out HW_.out (by kernel_rfl)) (fun _ _ _ h => h) (Or.inl ⟨by rfl, ?_⟩) hHeld ?_ ?_
        rotate_left
        · rintro w' ⟨s0, s1, s2, s3, s4⟩
          go_simp
          with_reducible rfl
        rotate_left
        · simp only [Act.put, List.setIfInBounds_toArray, List.set_cons_zero, List.set_cons_succ, i64_w, i32_w]
          rfl
        refine pu 3 29 HT_ ?_
        refine pu 4 30 HT_ ?_
        refine take_ (i := 5) (N := some 31) (v := ?_) (a' := ?_) #[true, true, true, true, true, true, false, true, false, false, false, false, false] rfl rfl (take_ofW HT_.out HW_.out (by kernel_rfl)) (fun _ _ _ h => h) (Or.inl ⟨by rfl, ?_⟩) hHeld ?_ ?_
        rotate_left
        · rintro w' ⟨s0, s1, s2, s3, s4⟩
          go_simp
          with_reducible rfl
        rotate_left
        · simp only [Act.put, List.setIfInBounds_toArray, List.set_cons_zero, List.set_cons_succ, i64_w, i32_w]
          rfl
        refine take_ (i := 6) (N := some 32) (v := ?_) (a' := ?_) #[true, true, true, true, true, true, true, true, false, false, false, false, false] rfl rfl (take_ofW HT_.out HW_.out (by kernel_rfl)) (fun _ _ _ h => h) (Or.inl ⟨by rfl, ?_⟩) hHeld ?_ ?_
        rotate_left
        · rintro w' ⟨s0, s1, s2, s3, s4⟩
          go_simp
          with_reducible rfl
        rotate_left
        · simp only [Act.put, List.setIfInBounds_toArray, List.set_cons_zero, List.set_cons_succ, i64_w, i32_w]
          rfl
        refine take_ (i := 8) (N := some 34) (v := ?_) (a' := ?_) #[true, true, true, true, true, true, true, true, true, false, false, false, false] rfl rfl (take_ofW HT_.out HW_.out (by kernel_rfl)) (fun _ _ _ h => h) (Or.inl ⟨by rfl, ?_⟩) hHeld ?_ ?_
        rotate_left
        · rintro w' ⟨s0, s1, s2, s3, s4⟩
          go_simp
          with_reducible rfl
        rotate_left
        · simp only [Act.put, List.setIfInBounds_toArray, List.set_cons_zero, List.set_cons_succ, i64_w, i32_w]
          rfl
        refine pu 9 35 HT_ ?_
        refine pu 10 36 HT_ ?_
        refine take_ (i := 11) (N := some 37) (v := ?_) (a' := ?_) #[true, true, true, true, true, true, true, true, true, true, true, true, false] rfl rfl (take_ofW HT_.out HW_.out (by kernel_rfl)) (fun _ _ _ h => h) (Or.inl ⟨by rfl, ?_⟩) hHeld ?_ ?_
        rotate_left
        · rintro w' ⟨s0, s1, s2, s3, s4⟩
          go_simp
          with_reducible rfl
        rotate_left
        · simp only [Act.put, List.setIfInBounds_toArray, List.set_cons_zero, List.set_cons_succ, i64_w, i32_w]
          rfl
        refine pu 12 38 HT_ ?_
        refine done_ (done_of HT_.out (by kernel_rfl)) ?_
        clear hHeld
        by_cases cx : (rd_T64 p f0).f0 = (rd_T64 p f1).f0
        · have cxb : ((rd_T64 p f0).f0 == (rd_T64 p f1).f0) = true := beq_iff_eq.mpr cx
          have h1 := HQ2.out
          rw [if_pos cx] at h1
          have h2 := HF.out
          rw [← h1] at h2
          have h3 : some ([], false) = some (r1, r2) := h2
          cases h3
          clear cx h1 h2 HF HQ2
          go_wp2
          (try simp only [Exit.inBlock, Exit.then])
          refine bodyPost_ret (results_tmp2 wopRes _ _ _) (by rfl) ?_
          have HB2 := Aside0.mk (below_then HBL.out (below_size HBL.out) HBr.out)
          exact ⟨_, rfl, Kd.R_nil .., below_then HB.out (below_size HB.out) HB2.out⟩
        · have cxb : ((rd_T64 p f0).f0 == (rd_T64 p f1).f0) = false := beq_eq_false_iff_ne.mpr cx
          have h1 := HQ2.out
          rw [if_neg cx] at h1
          have HQ3 := Aside0.mk h1
          have kk0 := bc BK7 0
          have kk1 := bc BK7 1
          clear cx h1 HQ2
          go_wp2_with (first | ((with_reducible refine gate_dst (N := 44) rfl ?_); refine Kd.R_lit (Kd.int .i64) _ 3 ?hg (N := 44) ?hd (xs := ([f0, f1] : List Int)) (inner := [.int .i64 f0, .int .i64 f1]) (ok := fun _ => True) (okp := fun _ => True) ?hr ?hp (fun _ hk => hk) trivial (Below.refl _ _) (Nat.le_refl _) (by simp) ?_; (case hd => rfl); (case hg => rfl); (case hr => first | (go_simp; done) | (go_simp; rfl)); (case hp => exact (Reps.one (show Kd.M (Kd.int .i64) _ _ _ f0 [.int .i64 f0] from rfl) (Reps.one (show Kd.M (Kd.int .i64) _ _ _ f1 [.int .i64 f1] from rfl) (Reps.none _ _)))); intro v44 w12 ho hb hg_ hnew_; clear hg_ hnew_; rw [← NY.out] at ho; have H44 := Aside0.mk ho; obtain ⟨A44, c44, e44⟩ := Kd.R_slice H44.out; subst e44; have n0_ := Aside0.mk (below_then HBr.out (below_size HBr.out) hb); have L44 := Aside0.mk (below_size HBr.out); clear HBr hb ho; have HBr := n0_; clear n0_) | ((with_reducible refine gate_builtin (b := .append) (xs := #[.tmp 39, .tmp 45]) rfl ?_); at_builtin; refine Kd.S_append (Kd.slice 3 (Kd.int .i64)) (w0 := w8) w8.heap.size rfl (.tmp 39) (.tmp 45) 62 25 (.slice none 0 0) 24 rfl Try.underlying62 infoWp rfl (by decide) (by omega) u5 rows y [.slice A44 y.length c44] (fun _ => True) (fun k => some k = (.slice A44 y.length c44 : Value).ownBlock) rfl rfl ?aP ?aK ?aF ?aO ?aB ?aS ?aL ?_; (case aP => exact ⟨_, rfl, Kd.R_lower (Kd.R_tight rfl H44.out) (Nat.le_trans (below_size HBL.out) L44.out)⟩); (case aK => exact fun k hk => ⟨trivial, fun he => by have h1 := Kd.R_base H44.out k hk.symm; have h2 := Kd.R_lt (Kd.S_R HS.out) k he.symm; have h3 := L44.out; omega⟩); (case aF => exact fun k hk => trivial); (case aO => exact Kd.S_mono (Kd.S_below (Kd.S_bound HS.out) HBr.out) (fun k hk => ⟨trivial, fun he => by have h1 := Kd.R_base H44.out k he.symm; have h2 := hk.2.2.1; have h3 := L44.out; omega⟩)); (case aB => exact below_then HBL.out (below_size HBL.out) HBr.out); (case aS => exact Nat.le_trans (below_size HBL.out) (below_size HBr.out)); (case aL => have := HX.out.2.2.1; have := HX.out.2.1; have := HOK.out.2.2; omega); intro v24 w24 ho hb hg hat_; clear hg hat_; have HS2 := Aside0.mk ho; have HB2 := Aside0.mk hb; clear ho hb))
          go_roundg gk'
          case measure => exact HG1.out.2.2.2.2
          case rel => exact ⟨rows ++ [y], i + 1, by first | rfl | (simp only [hnw]; done) | (simp [hnw]; done), ⟨HG1.out.1, HG1.out.2.1, HG1.out.2.2.1, by rw [HG1.out.2.2.2.1]; exact HQ3.out, HPR.out⟩, HS2, HB2⟩
end Go.Proofs.Ytiimkifkakdalaa.P
