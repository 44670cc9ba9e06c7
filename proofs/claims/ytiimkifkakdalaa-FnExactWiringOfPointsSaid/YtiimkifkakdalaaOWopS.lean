/- spec.WiringOfPoints: what a call of it computes. Conditions: none. -/
import Derived.Test.YtiimkifkakdalaaORws
import Derived.Test.YtiimkifkakdalaaP53
import Derived.Test.YtiimkifkakdalaaP27
import Derived.Test.YtiimkifkakdalaaP54
import Derived.Test.YtiimkifkakdalaaWAll2
namespace Go.Proofs.Ytiimkifkakdalaa.P
open Go.RowKit Go.Proofs.YtiimkifkakdalaaW.PrintWords Go.Proofs.YtiimkifkakdalaaW.PrintLast Go.Proofs.YtiimkifkakdalaaW.PrintMore
set_option linter.unusedVariables false
set_option linter.unusedSimpArgs false

theorem own_len (A : Option Addr) (x y c : Nat) : (Value.slice A x c).ownBlock = (Value.slice A y c).ownBlock := by cases A <;> simp [Value.ownBlock]
/-- The place of a pair of points among the pairs, asked from place t downward. -/
def wsAt (p : List S64) (i j : Int) (rows : List (List Int)) : Nat → Option Nat
  | 0 => some 0
  | t + 1 => (spec_SlopeBefore.f (rd_T64 p i).f0 (rd_T64 p i).f1 (rd_T64 p j).f0 (rd_T64 p j).f1 (rd_T64 p ((rows.getD t []).getD 0 0)).f0 (rd_T64 p ((rows.getD t []).getD 0 0)).f1 (rd_T64 p ((rows.getD t []).getD 1 0)).f0 (rd_T64 p ((rows.getD t []).getD 1 0)).f1).bind fun b => if b = true then wsAt p i j rows t else some (t + 1)
def wsJ : Nat → List S64 → Int → Int → List (List Int) → Option (Option (List (List Int)))
  | 0, _, _, _, _ => none
  | k + 1, p, i, j, rows => if j < (p.length : Int) then (if (rd_T64 p i).f0 = (rd_T64 p j).f0 then some none else if rows.length < 1000000 then (wsAt p i j rows rows.length).bind fun t => wsJ k p i (j + 1) (rows.take t ++ [i, j] :: rows.drop t) else none) else some (some rows)
def wsN (g : List (List Int) → Option (Option (List (List Int)))) : Option (List (List Int)) → Option (Option (List (List Int)))
  | none => some none
  | some rows => g rows
def wsI : Nat → List S64 → Int → List (List Int) → Option (Option (List (List Int)))
  | 0, _, _, _ => none
  | k + 1, p, i, rows => if i < (p.length : Int) then (wsJ k p i (i + 1) rows).bind fun o => wsN (wsI k p (i + 1)) o else some (some rows)
def wopsEnd (k : Nat) (n : Int) : Option (List (List Int)) → Option (List Int × Bool)
  | none => some ([], false)
  | some rows => spec_WiringFrom.f k n rows
def spec_WiringOfPoints.f (k : Nat) (l0 : List S64) : Option (List Int × Bool) := (spec_SortPoints.f k l0).bind fun p => if (p.length : Int) = 0 then some ([], false) else if 6 < (p.length : Int) then some ([], false) else (wsI k p 0 []).bind fun o => wopsEnd k (p.length : Int) o
theorem wsJ.mono : ∀ (k : Nat) p i j rows, LeO (wsJ k p i j rows) (wsJ (k + 1) p i j rows)
  | 0, _, _, _, _ => fun r h => by simp [wsJ] at h
  | k + 1, p, i, j, rows => by
    have ih := wsJ.mono k
    unfold wsJ
    refine LeO.ite ?_ (LeO.refl _)
    refine LeO.ite (LeO.refl _) (LeO.ite ?_ (LeO.refl _))
    exact LeO.bind (LeO.refl _) (fun _ => ih _ _ _ _)
theorem wsI.mono : ∀ (k : Nat) p i rows, LeO (wsI k p i rows) (wsI (k + 1) p i rows)
  | 0, _, _, _ => fun r h => by simp [wsI] at h
  | k + 1, p, i, rows => by
    have ih := wsI.mono k
    unfold wsI
    refine LeO.ite (LeO.bind (wsJ.mono _ _ _ _ _) (fun o => ?_)) (LeO.refl _)
    cases o with
    | none => exact LeO.refl _
    | some rows => exact ih _ _ _
theorem spec_WiringOfPoints.mono : ∀ a0 k, LeO (spec_WiringOfPoints.f k a0) (spec_WiringOfPoints.f (k + 1) a0) := by
  intro a0 k
  unfold spec_WiringOfPoints.f
  refine LeO.bind (spec_SortPoints.mono _ _) (fun p => LeO.ite (LeO.refl _) (LeO.ite (LeO.refl _) (LeO.bind (wsI.mono _ _ _ _) (fun o => ?_))))
  cases o with
  | none => exact LeO.refl _
  | some rows => exact spec_WiringFrom.mono _ _ _
theorem infoWs : (Try.prog.info? 25).map (fun i => (i.zero, i.size, i.bytes)) = some (some (.slice none 0 0), 1, 24) := by kernel_rfl
theorem wopsRes : (Try.f28).results = #[.tmp 2, .tmp 3] := rfl
section
variable {P : Program} {ops : Array Oper} {Q : Exit → Act → World → Prop} {md : Region.Mode} {S : World → Prop} {ds : List Nat}
theorem wops.pn (i N : Nat) {T : Bool × List (List Nat × List Nat)} {oi : Oper} {fuel : Nat} {l : Array Bool} {a : Act} {w : World} {a' : Act} (hT : Aside0 (rtab md ops = T))
    (h : wpAnyLast P md ops Q S ds fuel (l.setIfInBounds i true) a' w) (hi : ops[i]? = some oi := by exact rfl) (hN : oi.dst = some N := by exact rfl) (hc : anyT T l.toList (l.setIfInBounds i true).toList i = true := by kernel_rfl)
    (hQ : ∀ c a w, Q (.panic c) (a.put oi.dst undef) w → Q (.panic c) a w := by exact fun _ _ _ h => h) (hy : Region.wanted oi (yielded ops a.tmps) = false := by rfl)
    (ha : a.put (some N) undef = a' := by simp only [Act.put, List.setIfInBounds_toArray, List.set_cons_zero, List.set_cons_succ, i64_w, i32_w]; rfl) : wpAnyLast P md ops Q S ds (fuel + 1) l a w :=
  pure_ (i := i) (N := some N) _ hi hN (any_of hT.out hc) hQ (.inr ⟨hy, rfl⟩) ha h
theorem wops.nope {c : Bool} {p q : Prop} (hc : c = false) (hq : q) : if c = true then p else q := by rw [if_neg (by rw [hc]; simp)]; exact hq
end
/-- What a row of a pair is. -/
abbrev wopsPr (n : Nat) (r : List Int) : Prop := ∃ a b : Int, r = [a, b] ∧ (0 ≤ a ∧ a < (n : Int)) ∧ (0 ≤ b ∧ b < (n : Int))
theorem wops_pr {n : Nat} {rows : List (List Int)} {x : List Int} {t : Nat} (h : ∀ r ∈ rows, wopsPr n r) (hx : wopsPr n x) : ∀ r ∈ rows.take t ++ x :: rows.drop t, wopsPr n r := by
  intro r hr
  rcases List.mem_append.mp hr with hr | hr
  · exact h r (List.mem_of_mem_take hr)
  · rcases List.mem_cons.mp hr with rfl | hr
    · exact hx
    · exact h r (List.mem_of_mem_drop hr)
theorem wops_end {wm w6 w26 w27 w32 w34 : World} {Ao : Option Addr} {co t base : Nat} {v32 v34 : Value} {zs : List Zr} {pu : Option Addr × Nat × Nat} {x : List Int} (h1 : Below wm.heap.size wm w6) (h2 : Below w6.heap.size w6 w26) (h2' : Below w26.heap.size w26 w27) (h3 : w27.grownBy w32 (Value.slice Ao t co).ownBlock) (ht : v32.ownBlock = (Value.slice Ao t co).ownBlock ∨ ∃ b, v32.ownBlock = some b ∧ w27.heap.size ≤ b) (h4 : w32.grownBy w34 v32.ownBlock) (ht4 : v34.ownBlock = v32.ownBlock ∨ ∃ b, v34.ownBlock = some b ∧ w32.heap.size ≤ b)
    (hR : Kd.R kSl 25 w34 base (fun k => some k = (.slice Ao zs.length co : Value).ownBlock ∨ wm.heap.size ≤ k) v34 ((zs.map (·.1)).take t ++ [pu] ++ (zs.map (·.1)).drop t)) (hW : Rws wm base (fun k => (True ∧ some k ≠ (.slice Ao zs.length co : Value).ownBlock) ∧ k < wm.heap.size) zs) (hO : ∀ k, (.slice Ao zs.length co : Value).ownBlock = some k → k < wm.heap.size) (hbase : base ≤ w26.heap.size) (hx : Kd.R (Kd.int .i64) 3 w27 w26.heap.size (fun _ => True) (slV pu) x) :
    Kd.S (Kd.slice 3 (Kd.int .i64)) 25 w34 base (fun _ => True) v34 ((zs.map (·.2)).take t ++ x :: (zs.map (·.2)).drop t) := by
  have a1 := below_size h1
  have a2 := below_size h2
  have a2' := below_size h2'
  have a3 := h3.size
  have e0 : ∀ k, (Value.slice Ao t co).ownBlock = some k → k < wm.heap.size := fun k he => hO k (by rw [own_len Ao zs.length t co]; exact he)
  have far : ∀ k, k < w27.heap.size → some k ≠ (Value.slice Ao t co).ownBlock → w34.heap[k]? = w27.heap[k]? := fun k hk hne => by
    refine (h4.block k (by omega) (fun he => ?_)).trans (h3.block k hk hne)
    rcases ht with ht | ⟨b, hb, hle⟩
    · exact hne (by rw [← ht]; exact he)
    · rw [hb] at he
      have : k = b := Option.some.inj he
      omega
  have hW' := Rws.step hW (w1 := w34) (fun k hk hlt => (far k (by omega) (fun he => hk.1.2 (by rw [own_len Ao zs.length t co]; exact he))).trans ((h2'.block k (by omega)).trans ((h2.block k (by omega)).trans (h1.block k hlt))))
  have hx' := Kd.R_step (w1 := w34) (Kd.R_mono (Kd.R_bound hx) (ok' := fun k => w26.heap.size ≤ k ∧ k < w27.heap.size) (fun k hk => ⟨hk.2.1, hk.2.2.1⟩)) (fun k hk hlt => far k hk.2 (fun he => by have := e0 k he.symm; omega))
  have hC := Rws.cons (z := (pu, x)) (ok := fun k => (some k ≠ (.slice Ao zs.length co : Value).ownBlock ∧ k < wm.heap.size) ∨ (w26.heap.size ≤ k ∧ k < w27.heap.size)) hW' (Kd.R_lower hx' hbase) (fun k hk h2 => by have := h2.2; have := hk.1; omega) (fun k hk => .inl ⟨hk.1.2, hk.2⟩) (fun k hk => .inr hk)
  have hP : ((pu, x) :: zs).Perm (zs.take t ++ (pu, x) :: zs.drop t) := by
    refine List.Perm.trans ?_ List.perm_middle.symm
    rw [List.take_append_drop]
  have hv34 : ∀ k, v34.ownBlock = some k → (Value.slice Ao zs.length co).ownBlock = some k ∨ w27.heap.size ≤ k := fun k hk => by
    rcases ht4 with h | ⟨b, hb, hle⟩
    · rw [h] at hk
      rcases ht with h | ⟨b, hb, hle⟩
      · rw [h, own_len Ao t zs.length co] at hk; exact .inl hk
      · rw [hb] at hk; have : b = k := Option.some.inj hk; exact .inr (by omega)
    · rw [hb] at hk; have : b = k := Option.some.inj hk; exact .inr (by omega)
  have hJ := S_join (v := v34) (okv := fun k => some k = (.slice Ao zs.length co : Value).ownBlock ∨ wm.heap.size ≤ k) (ok := fun _ => True) (zs := zs.take t ++ (pu, x) :: zs.drop t)
    (by rw [List.map_append, List.map_cons, List.map_take, List.map_drop]; rw [List.append_assoc] at hR; exact hR) (hC.perm hP)
    (fun _ _ => trivial)
    (fun k hk => ⟨trivial, fun he => by
      rcases hv34 k he.symm with h5 | h5
      · rcases hk with hk | hk
        · exact hk.1 h5.symm
        · have := hO k h5; omega
      · rcases hk with hk | hk
        · have := hk.2; omega
        · have := hk.2; omega⟩)
  rw [List.map_append, List.map_cons, List.map_take, List.map_drop] at hJ
  exact hJ
def wops.T11 : Bool × List (List Nat × List Nat) := (true, [([], []), ([], []), ([0, 1], [0, 1]), ([2], [2]), ([3], [3]), ([], []), ([], []), ([5, 6], [5, 6]), ([7], [7]), ([8], [8]), ([4, 9], [4, 9])])
def wops.B11 : List Nat := [0, 0, 3, 7, 15, 0, 0, 96, 224, 480, 1023]
theorem wops.tab11 : rtab .any (opsOf Try.f28 11) = wops.T11 := by kernel_rfl
theorem wops.bits11 : waitsOk wops.T11.2 wops.B11 = true := by kernel_rfl
def wops.T14 : Bool × List (List Nat × List Nat) := (true, [([], []), ([0], [0]), ([1], [1]), ([2], [2]), ([2], [2]), ([3, 4, 2], [2, 3, 4]), ([5, 2], [2, 5]), ([2], [2]), ([2], [2]), ([7, 8, 2], [2, 7, 8]), ([9, 2], [2, 9]), ([2], [2]), ([2], [2]), ([2], [2]), ([13, 2], [2, 13]), ([12, 14, 2], [2, 12, 14]), ([15, 2], [2, 15]), ([16, 2], [2, 16]), ([17, 2], [2, 17]), ([11, 18, 2], [2, 11, 18]), ([19, 2], [2, 19]), ([2], [2]), ([2], [2]), ([2], [2]), ([23, 2], [2, 23]), ([22, 24, 2], [2, 22, 24]), ([25, 2], [2, 25]), ([26, 2], [2, 26]), ([27, 2], [2, 27]), ([21, 28, 2], [2, 21, 28]), ([29, 2], [2, 29]), ([6, 10, 20, 30, 2, 2], [2, 6, 10, 20, 30]), ([2, 31], [2, 31])])
def wops.B14 : List Nat := [0, 1, 3, 7, 7, 31, 63, 7, 7, 391, 903, 7, 7, 7, 8199, 28679, 61447, 126983, 258055, 522247, 1046535, 7, 7, 7, 8388615, 29360135, 62914567, 130023431, 264241159, 534773767, 1071644679, 2147483647, 4294967295]
theorem wops.tab14 : rtab .any (opsOf Try.f28 14) = wops.T14 := by kernel_rfl
theorem wops.bits14 : waitsOk wops.T14.2 wops.B14 = true := by kernel_rfl
set_option maxHeartbeats 16000000 in
set_option maxRecDepth 100000 in
theorem spec_WiringOfPoints.calls (k : Nat) (A0 : Option Addr) (c0 : Nat) (l0 : List S64) (r1 : List Int) (r2 : Bool) (w : World) (hr0 : Kd.C k64 w A0 l0.length l0) (hc0 : l0.length ≤ c0) (h : spec_WiringOfPoints.f k l0 = some (r1, r2)) :
    Calls Try.prog 28 #[.slice A0 l0.length c0] w fun e w' => ∃ v : Value, e = .returned (.tuple #[v, .bool r2]) ∧ Kd.R (Kd.int .i64) 3 w' w.heap.size (fun _ => True) v r1 ∧ Below w.heap.size w w' := by
  have hu64 := Try.underlying64
  have HB := Aside0.mk (Below.refl w.heap.size w)
  have HR := Aside0.mk (And.intro hr0 hc0)
  clear hr0 hc0
  unfold spec_WiringOfPoints.f at h
  obtain ⟨p, A1, H⟩ := Option.bind_eq_some_iff.mp h
  replace A1 := Aside0.mk A1
  clear h
  by_cases hn0 : (p.length : Int) = 0
  · rw [if_pos hn0] at H
    have c16 : ((p.length : Int) == 0) = true := beq_iff_eq.mpr hn0
    cases H
    clear hn0
    go_enter Try.func28, Try.ntmps28
    go_wp2_with (first | (go_at_call 52; (with_reducible refine (spec_SortPoints.calls k _ _ l0 p _ HR.out.1 HR.out.2 A1.out).mono ?_); rintro e w3 ⟨v3, rfl, ho3, hb3⟩; have HP3 := Aside0.mk ho3; replace HB := bs HB hb3; clear hb3 ho3; obtain ⟨Ap, cp, ep⟩ := Kd.R_slice HP3.out; subst ep) | ((with_reducible refine gate_dst (N := 22) rfl ?_); refine Kd.R_lit (Kd.int .i64) _ 3 ?hg (N := 22) ?hd (xs := ([] : List Int)) (inner := []) (ok := fun _ => True) (okp := fun _ => True) ?hr ?hp (fun _ hk => hk) trivial (Below.refl _ _) (Nat.le_refl _) (by simp) ?_; (case hd => rfl); (case hg => rfl); (case hr => first | (go_simp; done) | (go_simp; rfl)); (case hp => exact (Reps.none _ _)); intro v22 w4 ho hb hg_ hnew_; clear hg_ hnew_; have HL0 := Aside0.mk ho; have BL0 := Aside0.mk hb; clear ho hb))
    (try simp only [Exit.inBlock, Exit.then])
    refine bodyPost_ret (results_tmp2 wopsRes _ _ _) (by rfl) ?_
    exact ⟨_, rfl, Kd.R_lower HL0.out (below_size HB.out), below_then HB.out (below_size HB.out) BL0.out⟩
  rw [if_neg hn0] at H
  have c16 : ((p.length : Int) == 0) = false := beq_eq_false_iff_ne.mpr hn0
  by_cases hn6 : 6 < (p.length : Int)
  · rw [if_pos hn6] at H
    have c20 : decide (6 < (p.length : Int)) = true := decide_eq_true hn6
    cases H
    clear hn0 hn6
    go_enter Try.func28, Try.ntmps28
    go_wp2_with (first | (go_at_call 52; (with_reducible refine (spec_SortPoints.calls k _ _ l0 p _ HR.out.1 HR.out.2 A1.out).mono ?_); rintro e w3 ⟨v3, rfl, ho3, hb3⟩; have HP3 := Aside0.mk ho3; replace HB := bs HB hb3; clear hb3 ho3; obtain ⟨Ap, cp, ep⟩ := Kd.R_slice HP3.out; subst ep) | ((with_reducible refine gate_dst (N := 22) rfl ?_); refine Kd.R_lit (Kd.int .i64) _ 3 ?hg (N := 22) ?hd (xs := ([] : List Int)) (inner := []) (ok := fun _ => True) (okp := fun _ => True) ?hr ?hp (fun _ hk => hk) trivial (Below.refl _ _) (Nat.le_refl _) (by simp) ?_; (case hd => rfl); (case hg => rfl); (case hr => first | (go_simp; done) | (go_simp; rfl)); (case hp => exact (Reps.none _ _)); intro v22 w4 ho hb hg_ hnew_; clear hg_ hnew_; have HL0 := Aside0.mk ho; have BL0 := Aside0.mk hb; clear ho hb))
    (try simp only [Exit.inBlock, Exit.then])
    refine bodyPost_ret (results_tmp2 wopsRes _ _ _) (by rfl) ?_
    exact ⟨_, rfl, Kd.R_lower HL0.out (below_size HB.out), below_then HB.out (below_size HB.out) BL0.out⟩
  rw [if_neg hn6] at H
  have c20 : decide (6 < (p.length : Int)) = false := decide_eq_false hn6
  obtain ⟨o, A2, HF⟩ := Option.bind_eq_some_iff.mp H
  have H' := Aside0.mk A2
  replace HF := Aside0.mk HF
  have HN := Aside0.mk (show 0 < p.length ∧ (p.length : Int) ≤ 6 by omega)
  clear hn0 hn6 A2 H
  go_enter Try.func28, Try.ntmps28
  go_wp2_with (first | (go_at_call 52; (with_reducible refine (spec_SortPoints.calls k _ _ l0 p _ HR.out.1 HR.out.2 A1.out).mono ?_); rintro e w3 ⟨v3, rfl, ho3, hb3⟩; have HP3 := Aside0.mk ho3; replace HB := bs HB hb3; clear hb3 ho3; obtain ⟨Ap, cp, ep⟩ := Kd.R_slice HP3.out; subst ep) | ((with_reducible refine gate_dst (N := 23) rfl ?_); refine Kd.S_lit (Kd.slice 3 (Kd.int .i64)) _ 25 ?hg (N := 23) ?hd (xs := ([] : List (List Int))) (inner := []) (ok := fun _ => True) (okp := fun _ => True) ?hr ?hp (fun _ hk => hk) trivial (Below.refl _ _) (Nat.le_refl _) (by simp) ?_; (case hd => rfl); (case hg => rfl); (case hr => first | (go_simp; done) | (go_simp; rfl)); (case hp => exact (Reps.none _ _)); intro v23 w4 ho hb hg_ hnew_; clear hg_ hnew_; have HS := Aside0.mk ho; have HBL := Aside0.mk hb; clear ho hb))
  obtain ⟨g0, cp0, ep, hpg, hpl, _⟩ := Kd.R_form HP3.out HN.out.1
  cases ep
  obtain ⟨P, hP⟩ : ∃ P : Addr, P = ⟨g0, 0, none⟩ := ⟨_, rfl⟩
  have HPC := Aside0.mk (Kd.R_reads' HP3.out).2.2
  rw [← hP] at HPC ⊢
  clear HP3 hpg hpl hP
  go_loopg [5, 6] k (fun kq v5 v6 w' => ∃ (rows : List (List Int)) (i : Int), v6 = .int .i64 i ∧ Aside0 (0 ≤ i ∧ i ≤ (p.length : Int)) ∧ Aside0 (wsI kq p i rows = some o) ∧ Aside0 (kq ≤ k) ∧ Aside0 (∀ r ∈ rows, wopsPr p.length r) ∧ Aside0 (Kd.S (Kd.slice 3 (Kd.int .i64)) 25 w' w3.heap.size (fun _ => True) v5 rows) ∧ Aside0 (Below w3.heap.size w3 w'))
  case atStart => exact ⟨[], 0, rfl, ⟨⟨Int.le_refl _, by omega⟩⟩, H', ⟨Nat.le_refl _⟩, ⟨fun r hr => absurd hr (by simp)⟩, HS, HBL⟩
  case round =>
    clear H' HS HBL
    obtain ⟨rows, i, rfl, HI, HA, HK1, HRP, HS, HBL⟩ := hrel
    cases gk with
    | zero => exact absurd HA.out (by simp [wsI])
    | succ k1 =>
      have H := HA.out
      clear HA
      simp only [wsI] at H
      by_cases ci : i < (p.length : Int)
      case neg =>
        rw [if_neg ci] at H
        have cib : decide (i < (p.length : Int)) = false := decide_eq_false ci
        obtain rfl := Option.some.inj H
        obtain ⟨A5, c5, e5⟩ := Kd.S_slice HS.out
        subst e5
        have HF2 := Aside0.mk (show spec_WiringFrom.f k (p.length : Int) rows = some (r1, r2) from HF.out)
        clear H ci HF
        go_wp2_with (first | (go_at_call 54; ((with_reducible refine (spec_WiringFrom.calls k (p.length : Int) A5 c5 rows r1 r2 _ (Kd.S_reads' HS.out).2.2 (Kd.S_reads' HS.out).2.1 HF2.out).mono ?_); rintro e w13 ⟨v13, rfl, ho, hb⟩; have HO13 := Aside0.mk ho; have HB13 := Aside0.mk (below_then HBL.out (below_size HBL.out) hb); clear ho hb)))
        (try simp only [Exit.inBlock, Exit.then])
        refine bodyPost_ret (results_tmp2 wopsRes _ _ _) (by rfl) ?_
        exact ⟨_, rfl, Kd.R_lower HO13.out (Nat.le_trans (below_size HB.out) (below_size HBL.out)), below_then HB.out (below_size HB.out) HB13.out⟩
      case pos =>
        rw [if_pos ci] at H
        have cib : decide (i < (p.length : Int)) = true := decide_eq_true ci
        obtain ⟨o1, A3, H⟩ := Option.bind_eq_some_iff.mp H
        have HO1 := Aside0.mk H
        have H' := Aside0.mk A3
        have hi1 : wrap64 (i + 1) = i + 1 := by have h1 := HI.out; have h2 := HN.out; unfold wrap64; omega
        have hi1w : IntKind.i64.wrap (i + 1) = i + 1 := (i64_w _).trans hi1
        have HIP := Aside0.mk ci
        clear ci H A3
        go_wp2
        go_loopg [5, 7] k1 (fun kq v5 v7 w' => ∃ (rows : List (List Int)) (j : Int), v7 = .int .i64 j ∧ Aside0 (i < j ∧ j ≤ (p.length : Int)) ∧ Aside0 (wsJ kq p i j rows = some o1) ∧ Aside0 (kq ≤ k1) ∧ Aside0 (∀ r ∈ rows, wopsPr p.length r) ∧ Aside0 (Kd.S (Kd.slice 3 (Kd.int .i64)) 25 w' w3.heap.size (fun _ => True) v5 rows) ∧ Aside0 (Below w3.heap.size w3 w'))
        case atStart => exact ⟨rows, i + 1, by first | rfl | (simp only [hi1w]) | (simp [hi1w]), ⟨by have := HIP.out; omega⟩, H', ⟨Nat.le_refl _⟩, HRP, HS, HBL⟩
        case round =>
          clear H' HS HBL HRP
          obtain ⟨rows, j, rfl, HJ, HA, HK2, HRP, HS, HBL⟩ := hrel
          cases gk with
          | zero => exact absurd HA.out (by simp [wsJ])
          | succ k2 =>
            have H := HA.out
            clear HA
            simp only [wsJ] at H
            by_cases cj : j < (p.length : Int)
            case neg =>
              rw [if_neg cj] at H
              have cjb : decide (j < (p.length : Int)) = false := decide_eq_false cj
              obtain rfl := Option.some.inj H
              have H' := Aside0.mk (show wsI k1 p (i + 1) rows = some o from HO1.out)
              clear H cj
              go_wp2
              go_roundg k1
              case measure => have := HK1.out; omega
              case rel => exact ⟨rows, i + 1, by first | rfl | (simp only [hi1w]) | (simp [hi1w]), ⟨by have h1 := HIP.out; have h2 := HI.out; omega⟩, H', ⟨by have := HK1.out; omega⟩, HRP, HS, HBL⟩
            case pos =>
              rw [if_pos cj] at H
              have cjb : decide (j < (p.length : Int)) = true := decide_eq_true cj
              have HJN := Aside0.mk cj
              have HIJ := Aside0.mk (show (0 ≤ i ∧ i < (p.length : Int)) ∧ (0 ≤ j ∧ j < (p.length : Int)) by have h1 := HI.out; have h2 := HJ.out; omega)
              obtain ⟨adp, e1, mi0, mi1⟩ := at_T64 HPC.out i HIJ.out.1.1 HIJ.out.1.2
              cases e1
              obtain ⟨adp, e1, mj0, mj1⟩ := at_T64 HPC.out j HIJ.out.2.1 HIJ.out.2.2
              cases e1
              have KIJ := Aside0.mk (And.intro mi0 (And.intro mi1 (And.intro mj0 mj1)))
              clear mi0 mi1 mj0 mj1
              have pi := eq_true HIJ.out.1.1
              have qi := eq_true HIJ.out.1.2
              have pj := eq_true HIJ.out.2.1
              have qj := eq_true HIJ.out.2.2
              have hj1 : wrap64 (j + 1) = j + 1 := by have h1 := HIJ.out; have h2 := HN.out; unfold wrap64; omega
              have hj1w : IntKind.i64.wrap (j + 1) = j + 1 := (i64_w _).trans hj1
              have ki0 := (HBL.out.cell (World.block_lt_of_cell? _ _ KIJ.out.1)).trans KIJ.out.1
              have kj0 := (HBL.out.cell (World.block_lt_of_cell? _ _ KIJ.out.2.2.1)).trans KIJ.out.2.2.1
              clear cj
              by_cases cx : (rd_T64 p i).f0 = (rd_T64 p j).f0
              case pos =>
                rw [if_pos cx] at H
                have cxb : ((rd_T64 p i).f0 == (rd_T64 p j).f0) = true := beq_iff_eq.mpr cx
                obtain rfl := Option.some.inj H
                have h1 : some none = some o := HO1.out
                obtain rfl := Option.some.inj h1
                have h2 : some ([], false) = some (r1, r2) := HF.out
                cases h2
                clear H cx HO1 HF
                go_wp2
                refine start_ (n := 11) (S := fun w' => w'.cell? (P.add (i.toNat * 2)) = some (.int .i64 (rd_T64 p i).f0) ∧ w'.cell? (P.add (j.toNat * 2)) = some (.int .i64 (rd_T64 p j).f0)) (ds := []) #[false, false, false, false, false, false, false, false, false, false, false] (by kernel_rfl) rfl rfl ⟨ki0, kj0⟩ (fun hHeld => ?_); refine with_tabW wops.tab11 wops.bits11 (fun HT_ HW_ => ?_)
                refine pu 0 38 HT_ ?_
                refine pu 1 39 HT_ ?_
                refine pu 2 40 HT_ ?_
                refine pu 3 41 HT_ ?_
                refine pu 5 43 HT_ ?_
                refine pu 6 44 HT_ ?_
                refine pu 7 45 HT_ ?_
                refine pu 8 46 HT_ ?_
                refine take_ (i := 4) (N := some 42) (v := ?_) (a' := ?_) #[true, true, true, true, true, true, true, true, true, false, false] rfl rfl (take_ofW HT_.out HW_.out (by kernel_rfl)) (fun _ _ _ h => h) (Or.inl ⟨by rfl, ?_⟩) hHeld ?_ ?_
                rotate_left
                · rintro w' ⟨s0, s1⟩
                  go_simp
                  with_reducible rfl
                rotate_left
                · simp only [Act.put, List.setIfInBounds_toArray, List.set_cons_zero, List.set_cons_succ, i64_w, i32_w]
                  rfl
                refine take_ (i := 9) (N := some 47) (v := ?_) (a' := ?_) #[true, true, true, true, true, true, true, true, true, true, false] rfl rfl (take_ofW HT_.out HW_.out (by kernel_rfl)) (fun _ _ _ h => h) (Or.inl ⟨by rfl, ?_⟩) hHeld ?_ ?_
                rotate_left
                · rintro w' ⟨s0, s1⟩
                  go_simp
                  with_reducible rfl
                rotate_left
                · simp only [Act.put, List.setIfInBounds_toArray, List.set_cons_zero, List.set_cons_succ, i64_w, i32_w]
                  rfl
                refine pu 10 48 HT_ ?_
                refine done_ (done_of HT_.out (by kernel_rfl)) ?_
                have n0_ := Aside0.mk (below_drew1 HBL.out)
                go_wp2_with (first | ((with_reducible refine gate_dst (N := 49) rfl ?_); refine Kd.R_lit (Kd.int .i64) _ 3 ?hg (N := 49) ?hd (xs := ([] : List Int)) (inner := []) (ok := fun _ => True) (okp := fun _ => True) ?hr ?hp (fun _ hk => hk) trivial (Below.refl _ _) (Nat.le_refl _) (by simp) ?_; (case hd => rfl); (case hg => rfl); (case hr => first | (go_simp; done) | (go_simp; rfl)); (case hp => exact (Reps.none _ _)); intro v49 w4 ho hb hg_ hnew_; clear hg_ hnew_; have HL0 := Aside0.mk ho; have BL0 := Aside0.mk hb; clear ho hb))
                (try simp only [Exit.inBlock, Exit.then])
                refine bodyPost_ret (results_tmp2 wopsRes _ _ _) (by rfl) ?_
                exact ⟨_, rfl, Kd.R_lower HL0.out (Nat.le_trans (below_size HB.out) (below_size n0_.out)), below_then HB.out (below_size HB.out) (below_then n0_.out (below_size n0_.out) BL0.out)⟩
              case neg =>
                rw [if_neg cx] at H
                have cxb : ((rd_T64 p i).f0 == (rd_T64 p j).f0) = false := beq_eq_false_iff_ne.mpr cx
                clear cx
                by_cases hrl : rows.length < 1000000
                case neg => rw [if_neg hrl] at H; exact absurd H (by simp)
                rw [if_pos hrl] at H
                obtain ⟨q, A4, H⟩ := Option.bind_eq_some_iff.mp H
                have HA2 := Aside0.mk H
                have H' := Aside0.mk A4
                clear H A4
                obtain ⟨zs, hzs, hV, hW⟩ := S_split HS.out
                obtain ⟨Ao, co, e0⟩ := Kd.R_slice hV
                rw [List.length_map] at e0
                subst e0
                have HZS := Aside0.mk hzs
                have HZL : Aside0 (zs.length < 1000000) := ⟨by rw [← hzs, List.length_map] at hrl; exact hrl⟩
                have hrz : rows.length = zs.length := by rw [← hzs, List.length_map]
                rw [hrz] at H'
                obtain ⟨y, hy⟩ : ∃ y_ : List Int, y_ = [i, j] := ⟨_, rfl⟩
                have NY := Aside0.mk hy
                clear hzs hrl hrz hy
                go_wp2
                refine start_ (n := 11) (S := fun w' => w'.cell? (P.add (i.toNat * 2)) = some (.int .i64 (rd_T64 p i).f0) ∧ w'.cell? (P.add (j.toNat * 2)) = some (.int .i64 (rd_T64 p j).f0)) (ds := []) #[false, false, false, false, false, false, false, false, false, false, false] (by kernel_rfl) rfl rfl ⟨ki0, kj0⟩ (fun hHeld => ?_); refine with_tabW wops.tab11 wops.bits11 (fun HT_ HW_ => ?_)
                refine pu 0 38 HT_ ?_
                refine pu 1 39 HT_ ?_
                refine pu 2 40 HT_ ?_
                refine pu 3 41 HT_ ?_
                refine pu 5 43 HT_ ?_
                refine pu 6 44 HT_ ?_
                refine pu 7 45 HT_ ?_
                refine pu 8 46 HT_ ?_
                refine take_ (i := 4) (N := some 42) (v := ?_) (a' := ?_) #[true, true, true, true, true, true, true, true, true, false, false] rfl rfl (take_ofW HT_.out HW_.out (by kernel_rfl)) (fun _ _ _ h => h) (Or.inl ⟨by rfl, ?_⟩) hHeld ?_ ?_
                rotate_left
                · rintro w' ⟨s0, s1⟩
                  go_simp
                  with_reducible rfl
                rotate_left
                · simp only [Act.put, List.setIfInBounds_toArray, List.set_cons_zero, List.set_cons_succ, i64_w, i32_w]
                  rfl
                refine take_ (i := 9) (N := some 47) (v := ?_) (a' := ?_) #[true, true, true, true, true, true, true, true, true, true, false] rfl rfl (take_ofW HT_.out HW_.out (by kernel_rfl)) (fun _ _ _ h => h) (Or.inl ⟨by rfl, ?_⟩) hHeld ?_ ?_
                rotate_left
                · rintro w' ⟨s0, s1⟩
                  go_simp
                  with_reducible rfl
                rotate_left
                · simp only [Act.put, List.setIfInBounds_toArray, List.set_cons_zero, List.set_cons_succ, i64_w, i32_w]
                  rfl
                refine pu 10 48 HT_ ?_
                refine done_ (done_of HT_.out (by kernel_rfl)) ?_
                have n0_ := Aside0.mk (below_drew1 HBL.out)
                have n1_ := Aside0.mk (Kd.R_drew hV)
                have n2_ := Aside0.mk (Rws.step (w1 := wr.drew) hW (fun _ _ _ => rfl))
                clear HBL HS hV hW ki0 kj0 hHeld
                generalize wr.drew = wm at n0_ n1_ n2_ ⊢
                have HBL := n0_
                have HV := n1_
                have HOL : Aside0 (∀ k, (Value.slice Ao zs.length co).ownBlock = some k → k < wm.heap.size) := ⟨fun k hk => Kd.R_lt n1_.out k hk⟩
                have HCO : Aside0 (zs.length ≤ co) := ⟨by have := (Kd.R_reads' n1_.out).2.1; simpa using this⟩
                have HWz : Aside0 (Rws wm w3.heap.size (fun k => (True ∧ some k ≠ (.slice Ao zs.length co : Value).ownBlock) ∧ k < wm.heap.size) zs) := ⟨⟨fun z hz => Kd.R_mono (Kd.R_bound (n2_.out.1 z hz)) (fun k hk => ⟨hk.1, hk.2.2.1⟩), n2_.out.2⟩⟩
                clear n0_ n1_ n2_
                go_wp2
                go_loopg [8] zs.length (fun kq v8 w' => ∃ (t : Int), v8 = .int .i64 t ∧ Aside0 (0 ≤ t ∧ t ≤ (zs.length : Int)) ∧ Aside0 (t.toNat = kq) ∧ Aside0 (wsAt p i j rows t.toNat = some q) ∧ Aside0 (Below wm.heap.size wm w'))
                case atStart => exact ⟨(zs.length : Int), rfl, ⟨by omega⟩, ⟨by omega⟩, H', ⟨Below.refl _ _⟩⟩
                case round =>
                  clear H'
                  obtain ⟨t, rfl, HTR, HTK, HA, HBw⟩ := hrel
                  by_cases ct : 0 < t
                  case neg =>
                    have ctb : decide (0 < t) = false := decide_eq_false ct
                    have HTQ : Aside0 (t.toNat = q) := ⟨by
                      have h1 := HA.out
                      rw [show t.toNat = 0 by omega, wsAt] at h1
                      rw [show t.toNat = 0 by omega]
                      exact Option.some.inj h1⟩
                    clear ct HA
                    go_wp2
                    refine start_ (n := 33) (S := fun w' => w'.heap.size = w'.heap.size) (ds := []) #[false, false, false, false, false, false, false, false, false, false, false, false, false, false, false, false, false, false, false, false, false, false, false, false, false, false, false, false, false, false, false, false, false] (by kernel_rfl) rfl rfl rfl (fun hHeld => ?_); refine with_tabW wops.tab14 wops.bits14 (fun HT_ HW_ => ?_)
                    refine pu 0 52 HT_ ?_
                    refine pu 1 53 HT_ ?_
                    refine pu 2 54 HT_ ?_
                    refine wops.pn 3 55 HT_ ?_
                    refine wops.pn 4 56 HT_ ?_
                    refine wops.pn 5 57 HT_ ?_
                    refine wops.pn 6 58 HT_ ?_
                    refine wops.pn 7 59 HT_ ?_
                    refine wops.pn 8 60 HT_ ?_
                    refine wops.pn 9 61 HT_ ?_
                    refine wops.pn 10 62 HT_ ?_
                    refine wops.pn 11 63 HT_ ?_
                    refine wops.pn 12 64 HT_ ?_
                    refine wops.pn 13 65 HT_ ?_
                    refine wops.pn 14 66 HT_ ?_
                    refine wops.pn 15 67 HT_ ?_
                    refine wops.pn 16 68 HT_ ?_
                    refine wops.pn 17 69 HT_ ?_
                    refine wops.pn 18 70 HT_ ?_
                    refine wops.pn 19 71 HT_ ?_
                    refine wops.pn 20 72 HT_ ?_
                    refine wops.pn 21 73 HT_ ?_
                    refine wops.pn 22 74 HT_ ?_
                    refine wops.pn 23 75 HT_ ?_
                    refine wops.pn 24 76 HT_ ?_
                    refine wops.pn 25 77 HT_ ?_
                    refine wops.pn 26 78 HT_ ?_
                    refine wops.pn 27 79 HT_ ?_
                    refine wops.pn 28 80 HT_ ?_
                    refine wops.pn 29 81 HT_ ?_
                    refine wops.pn 30 82 HT_ ?_
                    refine one_ (i := 31) (N := some 83) #[true, true, true, true, true, true, true, true, true, true, true, true, true, true, true, true, true, true, true, true, true, true, true, true, true, true, true, true, true, true, true, true, false] rfl rfl (one_of HT_.out (by kernel_rfl)) (by decide) (fun K hK => ?_); refine wops.nope (by rfl) ?_; refine hK.out _ _ hHeld (fun hHeld => ?_); clear hK K; refine norm_ (a' := ?_) ?_ ?_; (rotate_left; (show Act.put _ (some 83) _ = _; simp only [Act.put, List.setIfInBounds_toArray, List.set_cons_zero, List.set_cons_succ, i64_w, i32_w]; rfl))
                    refine pu 32 84 HT_ ?_
                    refine done_ (done_of HT_.out (by kernel_rfl)) ?_
                    have n0_ := Aside0.mk (below_drew1 HBw.out)
                    clear HBw hHeld
                    generalize wr.drew = w6 at n0_ ⊢
                    have HBw := n0_
                    clear n0_
                    have HO := Aside0.mk (Kd.R_below HV.out HBw.out)
                    have HOC := Aside0.mk (show Kd.C kSl w6 Ao (zs.map (·.1)).length (zs.map (·.1)) from (Kd.R_reads' HO.out).2.2)
                    obtain ⟨i0, hi0, _, hsz0, _⟩ := info_parts infoWs
                    have hpl2 : t ≤ (zs.length : Int) := HTR.out.2
                    have HTP := Aside0.mk (show 0 ≤ t ∧ t.toNat ≤ (zs.map (·.1)).length ∧ zs.length < 1000000 from ⟨HTR.out.1, by rw [List.length_map]; omega, HZL.out⟩)
                    have hcF := cut_from (P := Try.prog) 62 25 .i64 Try.underlying62 hi0 1 hsz0 (Ao : Option Addr) zs.length co t HTR.out.1 hpl2
                    have hcT := cut_to (P := Try.prog) 62 25 .i64 Try.underlying62 hi0 (Ao : Option Addr) zs.length co t HTR.out.1 hpl2 HCO.out
                    obtain ⟨AD, hAD⟩ : ∃ A1, A1 = (if co = t.toNat then (Ao : Option Addr) else (Ao : Option Addr).map (·.add (t.toNat * 1))) := ⟨_, rfl⟩
                    obtain ⟨cD, hcD⟩ : ∃ c1, c1 = co - t.toNat := ⟨_, rfl⟩
                    obtain ⟨dr, hdr⟩ : ∃ d1, d1 = (zs.map (·.1)).drop t.toNat := ⟨_, rfl⟩
                    obtain ⟨tk, htk⟩ : ∃ d1, d1 = (zs.map (·.1)).take t.toNat := ⟨_, rfl⟩
                    have HD := Aside0.mk (show dr = (zs.map (·.1)).drop t.toNat ∧ dr.length ≤ zs.length ∧ tk = (zs.map (·.1)).take t.toNat ∧ tk.length ≤ zs.length from ⟨hdr, by rw [hdr, List.length_drop, List.length_map]; omega, htk, by rw [htk, List.length_take, List.length_map]; omega⟩)
                    rw [← hAD, ← hcD, show zs.length - t.toNat = dr.length from by rw [hdr, List.length_drop, List.length_map]] at hcF
                    clear hdr htk
                    have KAD := Aside0.mk (show AD = (if co = t.toNat then (Ao : Option Addr) else (Ao : Option Addr).map (·.add (t.toNat * kSl.sz))) from hAD)
                    have p2 := eq_true HTR.out.1
                    have q2 := eq_true hpl2
                    clear hAD hcD hi0 hsz0 hpl2
                    go_wp2_with (first | ((with_reducible refine gate_dst (N := 87) rfl ?_); refine Kd.R_lit kSl _ 25 ?hg (N := 87) ?hd (xs := ([] : List (Option Addr × Nat × Nat))) (inner := []) (ok := fun _ => True) (okp := fun _ => True) ?hr ?hp (fun _ hk => hk) trivial (Below.refl _ _) (Nat.le_refl _) (by simp) ?_; (case hd => rfl); (case hg => rfl); (case hr => first | (go_simp; done) | (go_simp; rfl)); (case hp => exact (Reps.none _ _)); intro v22 w22 ho hb hg_ hnew_; clear hg_ hnew_; have H22 := Aside0.mk ho; have B22 := Aside0.mk hb; clear ho hb) | ((with_reducible refine gate_builtin (b := .append) (xs := #[.tmp 87, .tmp 90]) rfl ?_); (at_builtin; refine Kd.R_append_rows kSl (w0 := w6) w6.heap.size rfl (.tmp 87) (.tmp 90) 62 25 (.slice none 0 0) 24 rfl Try.underlying62 infoWs rfl (by decide) (by omega) v22 [] dr AD dr.length cD (fun _ => True) (fun _ => False) rfl rfl ?aO ?aR (fun _ _ h => h) (fun _ h => h.elim) ?aF ?aB ?aS ?aL ?_; (case aR => rw [KAD.out]; rw [HD.out.1]; exact Kd.C_below (Kd.C_drop (k := kSl) (c := co) HOC.out HTP.out.2.1 (by rw [List.length_map]; exact HCO.out)) B22.out); (case aB => exact B22.out); (case aF => exact (fun _ _ => trivial)); (case aO => exact H22.out); (case aS => exact below_size B22.out); (case aL => have h1 := HTP.out.2.2; have h2 := HD.out.2.1; simp only [List.length_nil]; omega); intro v26 w26 ho hb hg_ hat_; clear hg_ hat_; rw [List.nil_append] at ho; have H26 := Aside0.mk ho; have B26 := Aside0.mk hb; clear ho hb H22 B22; obtain ⟨A26, c26, e26⟩ := Kd.R_slice H26.out; subst e26)) | ((with_reducible refine gate_dst (N := 97) rfl ?_); refine Kd.R_lit (Kd.int .i64) _ 3 ?hg (N := 97) ?hd (xs := ([i, j] : List Int)) (inner := [.int .i64 i, .int .i64 j]) (ok := fun _ => True) (okp := fun _ => True) ?hr ?hp (fun _ hk => hk) trivial (Below.refl _ _) (Nat.le_refl _) (by simp) ?_; (case hd => rfl); (case hg => rfl); (case hr => first | (go_simp; done) | (go_simp; rfl)); (case hp => exact (Reps.one (show Kd.M (Kd.int .i64) _ _ _ i [.int .i64 i] from rfl) (Reps.one (show Kd.M (Kd.int .i64) _ _ _ j [.int .i64 j] from rfl) (Reps.none _ _)))); intro v97 w27 ho hb hg_ hnew_; clear hg_ hnew_; rw [← NY.out] at ho; have H97 := Aside0.mk ho; obtain ⟨A97, c97, e97⟩ := Kd.R_slice H97.out; subst e97; have B27 := Aside0.mk hb; clear hb ho) | ((with_reducible refine gate_builtin (b := .append) (xs := #[.tmp 94, .tmp 98]) rfl ?_); (at_builtin; refine Kd.R_append kSl (w0 := w3) w3.heap.size rfl (.tmp 94) (.tmp 98) 62 25 (.slice none 0 0) 24 rfl Try.underlying62 infoWs rfl (by decide) (by omega) (.slice Ao t.toNat co) tk (A97, y.length, c97) [.slice A97 y.length c97] (fun k => (some k = (.slice Ao zs.length co : Value).ownBlock ∨ wm.heap.size ≤ k) ∧ some k ≠ (.slice A26 dr.length c26 : Value).ownBlock) (fun _ => False) rfl rfl ?aP (fun _ hk => hk.elim) ?aF ?aO ?aB ?aS ?aL ?_; (case aP => exact rfl); (case aB => exact below_then (below_then (below_then HBL.out (below_size HBL.out) HBw.out) (Nat.le_trans (below_size HBL.out) (below_size HBw.out)) B26.out) (Nat.le_trans (below_size HBL.out) (Nat.le_trans (below_size HBw.out) (below_size B26.out))) B27.out); (case aF => exact fun k hk => ⟨.inr (Nat.le_trans (below_size HBw.out) (Nat.le_trans (below_size B26.out) (Nat.le_trans (below_size B27.out) hk))), fun he => by have h1 := Kd.R_lt H26.out k he.symm; have h2 := below_size B27.out; omega⟩); (case aO => exact Kd.R_mono (Kd.R_bound (HD.out.2.2.1 ▸ Kd.R_take (Kd.R_below (Kd.R_below HO.out B26.out) B27.out) HTP.out.2.1)) (fun k hk => ⟨.inl hk.1.2, fun he => by have h1 := Kd.R_base H26.out k he.symm; have h2 := Kd.R_lt HO.out k hk.1.2.symm; omega⟩)); (case aS => exact Nat.le_trans (Nat.le_trans (below_size HBL.out) (below_size HBw.out)) (Nat.le_trans (below_size B26.out) (below_size B27.out))); (case aL => have h1 := HTP.out.2.2; have h2 := HD.out.2.2.2; omega); intro v32 w32 ho hb hg hat; have H32 := Aside0.mk ho; have B32 := Aside0.mk hb; have G32 := Aside0.mk hg; have T32 := Aside0.mk hat; have H33 := Aside0.mk (Kd.R_grown (Kd.R_bound (Kd.R_below H26.out B27.out)) hg (fun k hk he => by have h1 := hk.2.1; have h2 := Kd.R_lt HO.out k (by rw [own_len Ao zs.length t.toNat co]; exact he.symm); omega)); clear ho hb hg hat)) | ((with_reducible refine gate_builtin (b := .append) (xs := #[.tmp 99, .tmp 100]) rfl ?_); at_builtin; refine Kd.R_append_rows kSl (w0 := w3) w3.heap.size rfl (.tmp 99) (.tmp 100) 62 25 (.slice none 0 0) 24 rfl Try.underlying62 infoWs rfl (by decide) (by omega) v32 (tk ++ [(A97, y.length, c97)]) dr A26 dr.length c26 (fun k => some k = (.slice Ao zs.length co : Value).ownBlock ∨ wm.heap.size ≤ k) (fun _ => False) rfl rfl ?aO ?aR (fun _ _ h => h) (fun _ h => h.elim) ?aF ?aB ?aS ?aL ?_; (case aR => exact (Kd.R_reads' H33.out).2.2); (case aB => exact B32.out); (case aF => exact fun k hk => .inr (Nat.le_trans (below_size HBw.out) (Nat.le_trans (below_size B26.out) (Nat.le_trans (below_size B27.out) (Nat.le_trans G32.out.size hk))))); (case aO => exact Kd.R_mono H32.out (fun k hk => hk.1)); (case aS => exact B32.out.size); (case aL => have h1 := HTP.out.2.2; have h2 := HD.out.2.1; have h3 := HD.out.2.2.2; rw [List.length_append, List.length_singleton]; omega); intro v34 w34 ho hb hg hat; have H34 := Aside0.mk ho; have B34 := Aside0.mk hb; have G34 := Aside0.mk hg; have T34 := Aside0.mk hat; clear ho hb hg hat))
                    go_roundg k2
                    case measure => have := HK2.out; omega
                    case rel => exact ⟨rows.take t.toNat ++ [i, j] :: rows.drop t.toNat, j + 1, by first | rfl | (simp only [hj1w]) | (simp [hj1w]), ⟨by have := HJ.out; have := HJN.out; omega⟩, ⟨by have := HA2.out; rw [← HTQ.out] at this; exact this⟩, ⟨by have := HK2.out; omega⟩, ⟨wops_pr HRP.out ⟨i, j, rfl, HIJ.out⟩⟩, ⟨by rw [← NY.out, ← HZS.out]; exact wops_end (pu := (A97, y.length, c97)) HBw.out B26.out B27.out G32.out T32.out G34.out T34.out (by have h := H34.out; rw [HD.out.1, HD.out.2.2.1] at h; exact h) HWz.out HOL.out (Nat.le_trans (below_size HBL.out) (Nat.le_trans (below_size HBw.out) (below_size B26.out))) H97.out⟩, ⟨B34.out⟩⟩
                  case pos =>
                    have ctb : decide (0 < t) = true := decide_eq_true ct
                    obtain ⟨tt, htt⟩ : ∃ tt : Int, t - 1 = tt := ⟨_, rfl⟩
                    have htn : t.toNat = tt.toNat + 1 := by omega
                    have htv : wrap64 (t - 1) = tt := by have h1 := HTR.out; have h2 := HZL.out; rw [← htt]; unfold wrap64; omega
                    have htw : IntKind.i64.wrap (t - 1) = tt := (i64_w _).trans htv
                    have HTT := Aside0.mk (show 0 ≤ tt ∧ tt < (zs.length : Int) by have h1 := HTR.out; omega)
                    have HA1 := HA.out
                    rw [htn, wsAt] at HA1
                    obtain ⟨b_, A60, HA2_⟩ := Option.bind_eq_some_iff.mp HA1
                    have HTN := Aside0.mk (And.intro htn htt)
                    have HQQ := Aside0.mk HA2_
                    clear HA HA1 HA2_ ct htn htt
                    have htl : tt.toNat < zs.length := by have := HTT.out; omega
                    obtain ⟨z, hz⟩ : ∃ z, zs[tt.toNat] = z := ⟨_, rfl⟩
                    have hzm : z ∈ zs := by rw [← hz]; exact List.getElem_mem htl
                    have hrow : rows.getD tt.toNat [] = z.2 := by rw [← HZS.out, List.getD_eq_getElem?_getD, List.getElem?_map, List.getElem?_eq_getElem htl, hz]; rfl
                    rw [hrow] at A60
                    obtain ⟨a, b, ez, ha, hb⟩ := HRP.out z.2 (by rw [← HZS.out]; exact List.mem_map.mpr ⟨z, hzm, rfl⟩)
                    have hzR := HWz.out.1 z hzm
                    rw [ez] at A60 hzR
                    replace A6 : spec_SlopeBefore.f (rd_T64 p i).f0 (rd_T64 p i).f1 (rd_T64 p j).f0 (rd_T64 p j).f1 (rd_T64 p a).f0 (rd_T64 p a).f1 (rd_T64 p b).f0 (rd_T64 p b).f1 = some b_ := A60
                    have A6 := Aside0.mk A6
                    obtain ⟨Az, cz, eq⟩ := Kd.R_slice hzR
                    rw [eq] at hzR
                    have hzC := (Kd.R_reads' hzR).2.2
                    obtain ⟨X, eX, hX0⟩ := Kd.at_int hzC 0 (by decide) (by simp)
                    obtain ⟨X', eX', hX1⟩ := Kd.at_int hzC 1 (by decide) (by simp)
                    have : X' = X := Option.some.inj (eX'.symm.trans eX)
                    subst this
                    have HO := Aside0.mk (Kd.R_below HV.out HBw.out)
                    have hjp : tt < ((zs.map (·.1)).length : Int) := by rw [List.length_map]; exact HTT.out.2
                    have hpos : 0 < (zs.map (·.1)).length := by rw [List.length_map]; have := HTT.out; omega
                    obtain ⟨g5, cg, eg, _, _, _⟩ := Kd.R_form HO.out hpos
                    rw [List.length_map] at eg
                    cases eg
                    obtain ⟨hc1, _⟩ := Kd.R_celln (none, 0, 0) HO.out tt HTT.out.1 (by first | exact hjp | exact HTT.out.2)
                    have hrd : rdOf (none, 0, 0) (zs.map (·.1)) tt = z.1 := by unfold rdOf; rw [List.getD_eq_getElem?_getD, List.getElem?_map, List.getElem?_eq_getElem htl, hz]; rfl
                    rw [hrd] at hc1
                    have hz1 : slV z.1 = .slice (some X') 2 cz := by rw [eq, eX']; rfl
                    have kr0 : wr.cell? ⟨g5, tt.toNat, none⟩ = some (.slice (some X') 2 cz) := hc1.trans (congrArg some hz1)
                    obtain ⟨ada, ea, ma0, ma1⟩ := at_T64 HPC.out a ha.1 ha.2
                    cases ea
                    obtain ⟨adb, eb, mb0, mb1⟩ := at_T64 HPC.out b hb.1 hb.2
                    cases eb
                    have HBm := Aside0.mk (below_drew1 (below_then HBL.out (below_size HBL.out) HBw.out))
                    have HBd := Aside0.mk (below_drew1 HBw.out)
                    have up3 : ∀ {ad : Addr} {v : Value}, w3.cell? ad = some v → wr.drew.cell? ad = some v := fun {ad} {v} h => (HBm.out.cell (World.block_lt_of_cell? _ ad h)).trans h
                    have upm : ∀ {ad : Addr} {v : Value}, wm.cell? ad = some v → wr.drew.cell? ad = some v := fun {ad} {v} h => (HBd.out.cell (World.block_lt_of_cell? _ ad h)).trans h
                    have ki0 := up3 KIJ.out.1
                    have ki1 := up3 KIJ.out.2.1
                    have kj0 := up3 KIJ.out.2.2.1
                    have kj1 := up3 KIJ.out.2.2.2
                    have kx0 := upm hX0
                    have kx1 := upm hX1
                    have ka0 := up3 ma0
                    have ka1 := up3 ma1
                    have kb0 := up3 mb0
                    have kb1 := up3 mb1
                    have kr : wr.drew.cell? ⟨g5, tt.toNat, none⟩ = some (.slice (some X') 2 cz) := kr0
                    have pa := eq_true ha.1
                    have qa := eq_true ha.2
                    have pb := eq_true hb.1
                    have qb := eq_true hb.2
                    have pt := eq_true HTT.out.1
                    have qt := eq_true HTT.out.2
                    clear ma0 ma1 mb0 mb1 hX0 hX1 kr0 hc1 hz1 hrd hjp hzC hzR ez eX' eX eq hrow hzm hz htl ha hb HBw HBm up3 upm HO A60
                    go_wp2
                    refine start_ (n := 33) (S := fun w' => w'.cell? (P.add (i.toNat * 2)) = some (.int .i64 (rd_T64 p i).f0) ∧ w'.cell? ⟨(P.add (i.toNat * 2)).block, (P.add (i.toNat * 2)).off + 1, none⟩ = some (.int .i64 (rd_T64 p i).f1) ∧ w'.cell? (P.add (j.toNat * 2)) = some (.int .i64 (rd_T64 p j).f0) ∧ w'.cell? ⟨(P.add (j.toNat * 2)).block, (P.add (j.toNat * 2)).off + 1, none⟩ = some (.int .i64 (rd_T64 p j).f1) ∧ w'.cell? ⟨g5, tt.toNat, none⟩ = some (.slice (some X') 2 cz) ∧ w'.cell? X' = some (.int .i64 a) ∧ w'.cell? ⟨X'.block, X'.off + 1, none⟩ = some (.int .i64 b) ∧ w'.cell? (P.add (a.toNat * 2)) = some (.int .i64 (rd_T64 p a).f0) ∧ w'.cell? ⟨(P.add (a.toNat * 2)).block, (P.add (a.toNat * 2)).off + 1, none⟩ = some (.int .i64 (rd_T64 p a).f1) ∧ w'.cell? (P.add (b.toNat * 2)) = some (.int .i64 (rd_T64 p b).f0) ∧ w'.cell? ⟨(P.add (b.toNat * 2)).block, (P.add (b.toNat * 2)).off + 1, none⟩ = some (.int .i64 (rd_T64 p b).f1)) (ds := []) #[false, false, false, false, false, false, false, false, false, false, false, false, false, false, false, false, false, false, false, false, false, false, false, false, false, false, false, false, false, false, false, false, false] (by kernel_rfl) rfl rfl ⟨ki0, ki1, kj0, kj1, kr, kx0, kx1, ka0, ka1, kb0, kb1⟩ (fun hHeld => ?_); refine with_tabW wops.tab14 wops.bits14 (fun HT_ HW_ => ?_)
                    generalize wr.drew = w5 at HBd hHeld kr kx0 kx1 ka0 ka1 kb0 kb1 ki0 ki1 kj0 kj1 ⊢
                    have HBw := HBd
                    clear HBd
                    refine pu 0 52 HT_ ?_
                    refine pu 1 53 HT_ ?_
                    refine pu 2 54 HT_ ?_
                    refine pu 3 55 HT_ ?_
                    refine pu 4 56 HT_ ?_
                    refine pu 5 57 HT_ ?_
                    refine pu 7 59 HT_ ?_
                    refine pu 8 60 HT_ ?_
                    refine pu 9 61 HT_ ?_
                    refine pu 11 63 HT_ ?_
                    refine pu 12 64 HT_ ?_
                    refine pu 13 65 HT_ ?_
                    refine pu 14 66 HT_ ?_
                    refine pu 15 67 HT_ ?_
                    refine pu 21 73 HT_ ?_
                    refine pu 22 74 HT_ ?_
                    refine pu 23 75 HT_ ?_
                    refine pu 24 76 HT_ ?_
                    refine pu 25 77 HT_ ?_
                    refine take_ (i := 6) (N := some 58) (v := ?_) (a' := ?_) #[true, true, true, true, true, true, true, true, true, true, false, true, true, true, true, true, false, false, false, false, false, true, true, true, true, true, false, false, false, false, false, false, false] rfl rfl (take_ofW HT_.out HW_.out (by kernel_rfl)) (fun _ _ _ h => h) (Or.inl ⟨by rfl, ?_⟩) hHeld ?_ ?_
                    rotate_left
                    · rintro w' ⟨s0, s1, s2, s3, s4, s5, s6, s7, s8, s9, s10⟩
                      go_simp
                      with_reducible rfl
                    rotate_left
                    · simp only [Act.put, List.setIfInBounds_toArray, List.set_cons_zero, List.set_cons_succ, i64_w, i32_w]
                      rfl
                    refine take_ (i := 10) (N := some 62) (v := ?_) (a' := ?_) #[true, true, true, true, true, true, true, true, true, true, true, true, true, true, true, true, false, false, false, false, false, true, true, true, true, true, false, false, false, false, false, false, false] rfl rfl (take_ofW HT_.out HW_.out (by kernel_rfl)) (fun _ _ _ h => h) (Or.inl ⟨by rfl, ?_⟩) hHeld ?_ ?_
                    rotate_left
                    · rintro w' ⟨s0, s1, s2, s3, s4, s5, s6, s7, s8, s9, s10⟩
                      go_simp
                      with_reducible rfl
                    rotate_left
                    · simp only [Act.put, List.setIfInBounds_toArray, List.set_cons_zero, List.set_cons_succ, i64_w, i32_w]
                      rfl
                    refine take_ (i := 16) (N := some 68) (v := ?_) (a' := ?_) #[true, true, true, true, true, true, true, true, true, true, true, true, true, true, true, true, true, false, false, false, false, true, true, true, true, true, false, false, false, false, false, false, false] rfl rfl (take_ofW HT_.out HW_.out (by kernel_rfl)) (fun _ _ _ h => h) (Or.inl ⟨by rfl, ?_⟩) hHeld ?_ ?_
                    rotate_left
                    · rintro w' ⟨s0, s1, s2, s3, s4, s5, s6, s7, s8, s9, s10⟩
                      go_simp
                      with_reducible rfl
                    rotate_left
                    · simp only [Act.put, List.setIfInBounds_toArray, List.set_cons_zero, List.set_cons_succ, i64_w, i32_w]
                      rfl
                    refine pu 17 69 HT_ ?_
                    refine take_ (i := 18) (N := some 70) (v := ?_) (a' := ?_) #[true, true, true, true, true, true, true, true, true, true, true, true, true, true, true, true, true, true, true, false, false, true, true, true, true, true, false, false, false, false, false, false, false] rfl rfl (take_ofW HT_.out HW_.out (by kernel_rfl)) (fun _ _ _ h => h) (Or.inl ⟨by rfl, ?_⟩) hHeld ?_ ?_
                    rotate_left
                    · rintro w' ⟨s0, s1, s2, s3, s4, s5, s6, s7, s8, s9, s10⟩
                      go_simp
                      with_reducible rfl
                    rotate_left
                    · simp only [Act.put, List.setIfInBounds_toArray, List.set_cons_zero, List.set_cons_succ, i64_w, i32_w]
                      rfl
                    refine pu 19 71 HT_ ?_
                    refine take_ (i := 20) (N := some 72) (v := ?_) (a' := ?_) #[true, true, true, true, true, true, true, true, true, true, true, true, true, true, true, true, true, true, true, true, true, true, true, true, true, true, false, false, false, false, false, false, false] rfl rfl (take_ofW HT_.out HW_.out (by kernel_rfl)) (fun _ _ _ h => h) (Or.inl ⟨by rfl, ?_⟩) hHeld ?_ ?_
                    rotate_left
                    · rintro w' ⟨s0, s1, s2, s3, s4, s5, s6, s7, s8, s9, s10⟩
                      go_simp
                      with_reducible rfl
                    rotate_left
                    · simp only [Act.put, List.setIfInBounds_toArray, List.set_cons_zero, List.set_cons_succ, i64_w, i32_w]
                      rfl
                    refine take_ (i := 26) (N := some 78) (v := ?_) (a' := ?_) #[true, true, true, true, true, true, true, true, true, true, true, true, true, true, true, true, true, true, true, true, true, true, true, true, true, true, true, false, false, false, false, false, false] rfl rfl (take_ofW HT_.out HW_.out (by kernel_rfl)) (fun _ _ _ h => h) (Or.inl ⟨by rfl, ?_⟩) hHeld ?_ ?_
                    rotate_left
                    · rintro w' ⟨s0, s1, s2, s3, s4, s5, s6, s7, s8, s9, s10⟩
                      go_simp
                      with_reducible rfl
                    rotate_left
                    · simp only [Act.put, List.setIfInBounds_toArray, List.set_cons_zero, List.set_cons_succ, i64_w, i32_w]
                      rfl
                    refine pu 27 79 HT_ ?_
                    refine take_ (i := 28) (N := some 80) (v := ?_) (a' := ?_) #[true, true, true, true, true, true, true, true, true, true, true, true, true, true, true, true, true, true, true, true, true, true, true, true, true, true, true, true, true, false, false, false, false] rfl rfl (take_ofW HT_.out HW_.out (by kernel_rfl)) (fun _ _ _ h => h) (Or.inl ⟨by rfl, ?_⟩) hHeld ?_ ?_
                    rotate_left
                    · rintro w' ⟨s0, s1, s2, s3, s4, s5, s6, s7, s8, s9, s10⟩
                      go_simp
                      with_reducible rfl
                    rotate_left
                    · simp only [Act.put, List.setIfInBounds_toArray, List.set_cons_zero, List.set_cons_succ, i64_w, i32_w]
                      rfl
                    refine pu 29 81 HT_ ?_
                    refine take_ (i := 30) (N := some 82) (v := ?_) (a' := ?_) #[true, true, true, true, true, true, true, true, true, true, true, true, true, true, true, true, true, true, true, true, true, true, true, true, true, true, true, true, true, true, true, false, false] rfl rfl (take_ofW HT_.out HW_.out (by kernel_rfl)) (fun _ _ _ h => h) (Or.inl ⟨by rfl, ?_⟩) hHeld ?_ ?_
                    rotate_left
                    · rintro w' ⟨s0, s1, s2, s3, s4, s5, s6, s7, s8, s9, s10⟩
                      go_simp
                      with_reducible rfl
                    rotate_left
                    · simp only [Act.put, List.setIfInBounds_toArray, List.set_cons_zero, List.set_cons_succ, i64_w, i32_w]
                      rfl
                    refine one_ (i := 31) (N := some 83) #[true, true, true, true, true, true, true, true, true, true, true, true, true, true, true, true, true, true, true, true, true, true, true, true, true, true, true, true, true, true, true, true, false] rfl rfl (one_of HT_.out (by kernel_rfl)) (by decide) (fun K hK => ?_)
                    refine goes_ Try.func53 (by kernel_rfl) rfl #[.agg #[.int .i64 (rd_T64 p i).f0, .int .i64 (rd_T64 p i).f1], .agg #[.int .i64 (rd_T64 p j).f0, .int .i64 (rd_T64 p j).f1], .agg #[.int .i64 (rd_T64 p a).f0, .int .i64 (rd_T64 p a).f1], .agg #[.int .i64 (rd_T64 p b).f0, .int .i64 (rd_T64 p b).f1]] (by rfl) rfl rfl (by (try simp only [List.map_toArray, List.map_cons, List.map_nil]); first | done | rfl) ?_
                    (with_reducible refine (spec_SlopeBefore.calls _ _ _ _ _ _ _ _ b_ _ A6.out).mono ?_)
                    rintro e w6 ⟨rfl, hb6⟩
                    refine ⟨_, rfl, ?_⟩
                    have n0_ := Aside0.mk (below_then HBw.out (below_size HBw.out) hb6)
                    clear HBw
                    have HBw := n0_
                    clear n0_
                    have up : ∀ {ad : Addr} {v : Value}, _ → _ := fun {ad : Addr} {v : Value} (h : _) => (hb6.cell (World.block_lt_of_cell? _ ad h)).trans (h : _ = some v)
                    refine hK.out _ _ ⟨up hHeld.1, up hHeld.2.1, up hHeld.2.2.1, up hHeld.2.2.2.1, up hHeld.2.2.2.2.1, up hHeld.2.2.2.2.2.1, up hHeld.2.2.2.2.2.2.1, up hHeld.2.2.2.2.2.2.2.1, up hHeld.2.2.2.2.2.2.2.2.1, up hHeld.2.2.2.2.2.2.2.2.2.1, up hHeld.2.2.2.2.2.2.2.2.2.2⟩ (fun hHeld => ?_)
                    clear hK K
                    refine norm_ (a' := ?_) ?_ ?_
                    rotate_left
                    · show Act.put _ (some 83) _ = _
                      simp only [Act.put, List.setIfInBounds_toArray, List.set_cons_zero, List.set_cons_succ, i64_w, i32_w]
                      rfl
                    refine pu 32 84 HT_ ?_
                    refine done_ (done_of HT_.out (by kernel_rfl)) ?_
                    clear hHeld up kr kx0 kx1 ka0 ka1 kb0 kb1 ki0 ki1 kj0 kj1
                    cases b_ with
                    | true =>
                      have H' := Aside0.mk (show wsAt p i j rows tt.toNat = some q by have := HQQ.out; rw [if_pos rfl] at this; exact this)
                      go_wp2
                      go_roundg tt.toNat
                      case measure => have h1 := HTK.out; have h2 := HTN.out.1; omega
                      case rel => exact ⟨tt, by first | rfl | (simp only [htw]; done) | (simp [htw]; done), ⟨by have := HTT.out; omega⟩, ⟨rfl⟩, H', HBw⟩
                    | false =>
                      have HTQ : Aside0 (t.toNat = q) := ⟨by
                        have := HQQ.out
                        rw [if_neg (by simp)] at this
                        rw [HTN.out.1]
                        exact Option.some.inj this⟩
                      have HO := Aside0.mk (Kd.R_below HV.out HBw.out)
                      clear HQQ pt qt pa qa pb qb htv htw
                      have HOC := Aside0.mk (show Kd.C kSl w6 (some ⟨g5, 0, none⟩) (zs.map (·.1)).length (zs.map (·.1)) from (Kd.R_reads' HO.out).2.2)
                      obtain ⟨i0, hi0, _, hsz0, _⟩ := info_parts infoWs
                      have hpl2 : t ≤ (zs.length : Int) := HTR.out.2
                      have HTP := Aside0.mk (show 0 ≤ t ∧ t.toNat ≤ (zs.map (·.1)).length ∧ zs.length < 1000000 from ⟨HTR.out.1, by rw [List.length_map]; omega, HZL.out⟩)
                      have hcF := cut_from (P := Try.prog) 62 25 .i64 Try.underlying62 hi0 1 hsz0 ((some ⟨g5, 0, none⟩) : Option Addr) zs.length co t HTR.out.1 hpl2
                      have hcT := cut_to (P := Try.prog) 62 25 .i64 Try.underlying62 hi0 ((some ⟨g5, 0, none⟩) : Option Addr) zs.length co t HTR.out.1 hpl2 HCO.out
                      obtain ⟨AD, hAD⟩ : ∃ A1, A1 = (if co = t.toNat then ((some ⟨g5, 0, none⟩) : Option Addr) else ((some ⟨g5, 0, none⟩) : Option Addr).map (·.add (t.toNat * 1))) := ⟨_, rfl⟩
                      obtain ⟨cD, hcD⟩ : ∃ c1, c1 = co - t.toNat := ⟨_, rfl⟩
                      obtain ⟨dr, hdr⟩ : ∃ d1, d1 = (zs.map (·.1)).drop t.toNat := ⟨_, rfl⟩
                      obtain ⟨tk, htk⟩ : ∃ d1, d1 = (zs.map (·.1)).take t.toNat := ⟨_, rfl⟩
                      have HD := Aside0.mk (show dr = (zs.map (·.1)).drop t.toNat ∧ dr.length ≤ zs.length ∧ tk = (zs.map (·.1)).take t.toNat ∧ tk.length ≤ zs.length from ⟨hdr, by rw [hdr, List.length_drop, List.length_map]; omega, htk, by rw [htk, List.length_take, List.length_map]; omega⟩)
                      rw [← hAD, ← hcD, show zs.length - t.toNat = dr.length from by rw [hdr, List.length_drop, List.length_map]] at hcF
                      clear hdr htk
                      have KAD := Aside0.mk (show AD = (if co = t.toNat then ((some ⟨g5, 0, none⟩) : Option Addr) else ((some ⟨g5, 0, none⟩) : Option Addr).map (·.add (t.toNat * kSl.sz))) from hAD)
                      have p2 := eq_true HTR.out.1
                      have q2 := eq_true hpl2
                      clear hAD hcD hi0 hsz0 hpl2
                      go_wp2_with (first | ((with_reducible refine gate_dst (N := 87) rfl ?_); refine Kd.R_lit kSl _ 25 ?hg (N := 87) ?hd (xs := ([] : List (Option Addr × Nat × Nat))) (inner := []) (ok := fun _ => True) (okp := fun _ => True) ?hr ?hp (fun _ hk => hk) trivial (Below.refl _ _) (Nat.le_refl _) (by simp) ?_; (case hd => rfl); (case hg => rfl); (case hr => first | (go_simp; done) | (go_simp; rfl)); (case hp => exact (Reps.none _ _)); intro v22 w22 ho hb hg_ hnew_; clear hg_ hnew_; have H22 := Aside0.mk ho; have B22 := Aside0.mk hb; clear ho hb) | ((with_reducible refine gate_builtin (b := .append) (xs := #[.tmp 87, .tmp 90]) rfl ?_); (at_builtin; refine Kd.R_append_rows kSl (w0 := w6) w6.heap.size rfl (.tmp 87) (.tmp 90) 62 25 (.slice none 0 0) 24 rfl Try.underlying62 infoWs rfl (by decide) (by omega) v22 [] dr AD dr.length cD (fun _ => True) (fun _ => False) rfl rfl ?aO ?aR (fun _ _ h => h) (fun _ h => h.elim) ?aF ?aB ?aS ?aL ?_; (case aR => rw [KAD.out]; rw [HD.out.1]; exact Kd.C_below (Kd.C_drop (k := kSl) (c := co) HOC.out HTP.out.2.1 (by rw [List.length_map]; exact HCO.out)) B22.out); (case aB => exact B22.out); (case aF => exact (fun _ _ => trivial)); (case aO => exact H22.out); (case aS => exact below_size B22.out); (case aL => have h1 := HTP.out.2.2; have h2 := HD.out.2.1; simp only [List.length_nil]; omega); intro v26 w26 ho hb hg_ hat_; clear hg_ hat_; rw [List.nil_append] at ho; have H26 := Aside0.mk ho; have B26 := Aside0.mk hb; clear ho hb H22 B22; obtain ⟨A26, c26, e26⟩ := Kd.R_slice H26.out; subst e26)) | ((with_reducible refine gate_dst (N := 97) rfl ?_); refine Kd.R_lit (Kd.int .i64) _ 3 ?hg (N := 97) ?hd (xs := ([i, j] : List Int)) (inner := [.int .i64 i, .int .i64 j]) (ok := fun _ => True) (okp := fun _ => True) ?hr ?hp (fun _ hk => hk) trivial (Below.refl _ _) (Nat.le_refl _) (by simp) ?_; (case hd => rfl); (case hg => rfl); (case hr => first | (go_simp; done) | (go_simp; rfl)); (case hp => exact (Reps.one (show Kd.M (Kd.int .i64) _ _ _ i [.int .i64 i] from rfl) (Reps.one (show Kd.M (Kd.int .i64) _ _ _ j [.int .i64 j] from rfl) (Reps.none _ _)))); intro v97 w27 ho hb hg_ hnew_; clear hg_ hnew_; rw [← NY.out] at ho; have H97 := Aside0.mk ho; obtain ⟨A97, c97, e97⟩ := Kd.R_slice H97.out; subst e97; have B27 := Aside0.mk hb; clear hb ho) | ((with_reducible refine gate_builtin (b := .append) (xs := #[.tmp 94, .tmp 98]) rfl ?_); (at_builtin; refine Kd.R_append kSl (w0 := w3) w3.heap.size rfl (.tmp 94) (.tmp 98) 62 25 (.slice none 0 0) 24 rfl Try.underlying62 infoWs rfl (by decide) (by omega) (.slice (some ⟨g5, 0, none⟩) t.toNat co) tk (A97, y.length, c97) [.slice A97 y.length c97] (fun k => (some k = (.slice (some ⟨g5, 0, none⟩) zs.length co : Value).ownBlock ∨ wm.heap.size ≤ k) ∧ some k ≠ (.slice A26 dr.length c26 : Value).ownBlock) (fun _ => False) rfl rfl ?aP (fun _ hk => hk.elim) ?aF ?aO ?aB ?aS ?aL ?_; (case aP => exact rfl); (case aB => exact below_then (below_then (below_then HBL.out (below_size HBL.out) HBw.out) (Nat.le_trans (below_size HBL.out) (below_size HBw.out)) B26.out) (Nat.le_trans (below_size HBL.out) (Nat.le_trans (below_size HBw.out) (below_size B26.out))) B27.out); (case aF => exact fun k hk => ⟨.inr (Nat.le_trans (below_size HBw.out) (Nat.le_trans (below_size B26.out) (Nat.le_trans (below_size B27.out) hk))), fun he => by have h1 := Kd.R_lt H26.out k he.symm; have h2 := below_size B27.out; omega⟩); (case aO => exact Kd.R_mono (Kd.R_bound (HD.out.2.2.1 ▸ Kd.R_take (Kd.R_below (Kd.R_below HO.out B26.out) B27.out) HTP.out.2.1)) (fun k hk => ⟨.inl hk.1.2, fun he => by have h1 := Kd.R_base H26.out k he.symm; have h2 := Kd.R_lt HO.out k hk.1.2.symm; omega⟩)); (case aS => exact Nat.le_trans (Nat.le_trans (below_size HBL.out) (below_size HBw.out)) (Nat.le_trans (below_size B26.out) (below_size B27.out))); (case aL => have h1 := HTP.out.2.2; have h2 := HD.out.2.2.2; omega); intro v32 w32 ho hb hg hat; have H32 := Aside0.mk ho; have B32 := Aside0.mk hb; have G32 := Aside0.mk hg; have T32 := Aside0.mk hat; have H33 := Aside0.mk (Kd.R_grown (Kd.R_bound (Kd.R_below H26.out B27.out)) hg (fun k hk he => by have h1 := hk.2.1; have h2 := Kd.R_lt HO.out k (by rw [own_len (some ⟨g5, 0, none⟩) zs.length t.toNat co]; exact he.symm); omega)); clear ho hb hg hat)) | ((with_reducible refine gate_builtin (b := .append) (xs := #[.tmp 99, .tmp 100]) rfl ?_); at_builtin; refine Kd.R_append_rows kSl (w0 := w3) w3.heap.size rfl (.tmp 99) (.tmp 100) 62 25 (.slice none 0 0) 24 rfl Try.underlying62 infoWs rfl (by decide) (by omega) v32 (tk ++ [(A97, y.length, c97)]) dr A26 dr.length c26 (fun k => some k = (.slice (some ⟨g5, 0, none⟩) zs.length co : Value).ownBlock ∨ wm.heap.size ≤ k) (fun _ => False) rfl rfl ?aO ?aR (fun _ _ h => h) (fun _ h => h.elim) ?aF ?aB ?aS ?aL ?_; (case aR => exact (Kd.R_reads' H33.out).2.2); (case aB => exact B32.out); (case aF => exact fun k hk => .inr (Nat.le_trans (below_size HBw.out) (Nat.le_trans (below_size B26.out) (Nat.le_trans (below_size B27.out) (Nat.le_trans G32.out.size hk))))); (case aO => exact Kd.R_mono H32.out (fun k hk => hk.1)); (case aS => exact B32.out.size); (case aL => have h1 := HTP.out.2.2; have h2 := HD.out.2.1; have h3 := HD.out.2.2.2; rw [List.length_append, List.length_singleton]; omega); intro v34 w34 ho hb hg hat; have H34 := Aside0.mk ho; have B34 := Aside0.mk hb; have G34 := Aside0.mk hg; have T34 := Aside0.mk hat; clear ho hb hg hat))
                      go_roundg k2
                      case measure => have := HK2.out; omega
                      case rel => exact ⟨rows.take t.toNat ++ [i, j] :: rows.drop t.toNat, j + 1, by first | rfl | (simp only [hj1w]) | (simp [hj1w]), ⟨by have := HJ.out; have := HJN.out; omega⟩, ⟨by have := HA2.out; rw [← HTQ.out] at this; exact this⟩, ⟨by have := HK2.out; omega⟩, ⟨wops_pr HRP.out ⟨i, j, rfl, HIJ.out⟩⟩, ⟨by rw [← NY.out, ← HZS.out]; exact wops_end (pu := (A97, y.length, c97)) HBw.out B26.out B27.out G32.out T32.out G34.out T34.out (by have h := H34.out; rw [HD.out.1, HD.out.2.2.1] at h; exact h) HWz.out HOL.out (Nat.le_trans (below_size HBL.out) (Nat.le_trans (below_size HBw.out) (below_size B26.out))) H97.out⟩, ⟨B34.out⟩⟩
end Go.Proofs.Ytiimkifkakdalaa.P
