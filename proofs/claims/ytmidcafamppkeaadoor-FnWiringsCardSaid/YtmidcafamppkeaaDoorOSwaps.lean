/- impl.SwapsOf: what a call of it computes. Conditions: none. -/
import Derived.Test.YtmidcafamppkeaaDoorORunS
import Derived.Test.YtmidcafamppkeaaDoorWAll2
import Derived.Test.YtmidcafamppkeaaDoorP4
namespace Go.Proofs.YtmidcafamppkeaaDoor.P
open Go.RowKit Go.Proofs.YtmidcafamppkeaaDoorW.PrintWords Go.Proofs.YtmidcafamppkeaaDoorW.PrintLast Go.Proofs.YtmidcafamppkeaaDoorW.PrintMore
attribute [local go_sem] max2_int min2_int max_two min_two max_three min_three max_four min_four
set_option linter.unusedVariables false
set_option linter.unusedSimpArgs false

/-- The wires behind one exchange, as the program does it. -/
def swX (x : List Int) (p : Int) : List Int := (x.set p.toNat (rd x (wrap64 (p + 1)))).set (wrap64 (p + 1)).toNat (rd x p)
/-- The wires that are exchanged, one pair an exchange. -/
def swR : List Int → List Int → List (List Int)
  | _, [] => []
  | x, p :: w => [rd x p, rd x (wrap64 (p + 1))] :: swR (swX x p) w
def impl_SwapsOf.f (k : Nat) (a0 : Int) (l1 : List Int) : Option (List (List Int)) := (impl_IsWiring.f k a0 l1).bind fun b => if b = true then ((impl_upTo.f k a0).bind fun x => (impl_run.f k a0 l1).bind fun c => if c = true then (if l1.length < 1000000 then some (swR x l1) else none) else none) else some []
theorem impl_SwapsOf.mono : ∀ a0 a1 k, LeO (impl_SwapsOf.f k a0 a1) (impl_SwapsOf.f (k + 1) a0 a1) := by
  intro a0 a1 k
  unfold impl_SwapsOf.f
  repeat' first
    | (with_reducible exact impl_IsWiring.mono _ _ _)
    | (with_reducible exact impl_upTo.mono _ _)
    | (with_reducible exact impl_run.mono _ _ _)
    | (with_reducible exact LeO.refl _)
    | (with_reducible refine LeO.ite ?_ ?_)
    | (with_reducible refine LeO.bind ?_ (fun _ => ?_))
/-- What is kept between two exchanges. -/
def swInv (gC base : Nat) (r : List (List Int)) (l1 : List Int) (v : Value) (W : World) (x : List Int) (i : Int) : Prop :=
  some gC ≠ v.ownBlock ∧ gC < W.heap.size ∧ ∃ (u : Value) (rows : List (List Int)), W.heap[gC]? = some (.cells #[u] 30 (0, 0)) ∧ Kd.S (Kd.slice 3 (Kd.int .i64)) 24 W base (fun k => some k ≠ v.ownBlock ∧ k ≠ gC) u rows ∧ (rows.length : Int) = i ∧ i ≤ l1.length ∧ rows ++ swR x (l1.drop i.toNat) = r
def swC.T0 : Bool × List (List Nat × List Nat) := (true, [([], []), ([], []), ([], []), ([1, 2], [1, 2]), ([3], [3]), ([], []), ([], []), ([6], [6]), ([5, 7], [5, 7]), ([8], [8]), ([4, 9], [4, 9]), ([10], [10]), ([0, 11], [0, 11]), ([12, 12, 0, 1, 2, 3, 4, 5, 6, 7, 8, 9, 10, 11, 12], [12])])
def swC.B0 : List Nat := [0, 0, 0, 6, 14, 0, 0, 64, 224, 480, 1022, 2046, 4095, 8191]
theorem swC.tab0 : rtab .any (opsOf Tryd.f49 0) = swC.T0 := by kernel_rfl
theorem swC.bits0 : waitsOk swC.T0.2 swC.B0 = true := by kernel_rfl
theorem swEnd {l1 x : List Int} {rows r : List (List Int)} {i : Int} (h1 : (rows.length : Int) = i) (h2 : i ≤ l1.length) (h3 : rows ++ swR x (l1.drop i.toNat) = r) (h4 : ¬ i < (l1.length : Int)) : rows = r := by
  rw [List.drop_eq_nil_of_le (by omega)] at h3
  simpa [swR] using h3
theorem swStart {k : Nat} {a0 : Int} {l1 x x0 : List Int} {r : List (List Int)} {w4 w W : World} {v : Value} (hx : impl_upTo.f k a0 = some x) (hx0 : impl_upTo.f k a0 = some x0) (hr : swR x0 l1 = r)
    (hR : Kd.R (Kd.int .i64) 3 W (w4.alloc (.cells #[.slice none 0 0] 30 (0, 0))).heap.size (fun _ => True) v x) (hb : Below (w4.alloc (.cells #[.slice none 0 0] 30 (0, 0))).heap.size (w4.alloc (.cells #[.slice none 0 0] 30 (0, 0))) W) : swInv w4.heap.size w.heap.size r l1 v W x 0 := by
  obtain rfl : x0 = x := Option.some.inj (hx0.symm.trans hx)
  have hsz : w4.heap.size < (w4.alloc (.cells #[.slice none 0 0] 30 (0, 0))).heap.size := by have := heap_alloc_new w4 (.cells #[.slice none 0 0] 30 (0, 0)); exact (Array.getElem?_eq_some_iff.1 this).1
  have hbk := (hb.block w4.heap.size hsz).trans (heap_alloc_new w4 (.cells #[.slice none 0 0] 30 (0, 0)))
  exact ⟨fun he => by have := Kd.R_base hR _ he.symm; omega, (Array.getElem?_eq_some_iff.1 hbk).1, .slice none 0 0, [], hbk, Kd.S_bare (Kd.R_nil _ _ _ _ _), rfl, by simp, by simpa using hr⟩
set_option maxHeartbeats 8000000 in
set_option maxRecDepth 100000 in
theorem swC.asks (gC : Nat) (r : List (List Int)) (l1 : List Int) (W0 : World) (hgC : W0.heap.size ≤ gC) (hl : l1.length < 1000000) : runS.Asks (.pointer (some ⟨gC, 0, none⟩)) l1 W0 (swInv gC W0.heap.size r l1) := by
  intro g c W x i j hj h0 h1 h2 h3 h4 h5 h6 hI hR hB
  obtain ⟨hne, hlt, u, rows, hbk, hS, hlen, hle, hr⟩ := hI
  have hne' : g ≠ gC := fun he => hne (by rw [he]; rfl)
  have HNE := Aside0.mk hne'
  have HNE0 := Aside0.mk hne
  have HLT := Aside0.mk hlt
  have HGC := Aside0.mk hgC
  have BK := Aside0.mk hbk
  have HS := Aside0.mk hS
  have HL := Aside0.mk (And.intro hl (And.intro hlen (And.intro hle (And.intro h0 h1))))
  have HE := Aside0.mk hr
  have HJ := Aside0.mk hj
  have HR := Aside0.mk hR
  have HB := Aside0.mk hB
  have hjw : IntKind.i64.wrap (rd l1 i + 1) = j := (i64_w _).trans hj
  obtain ⟨ad1, e1, hx1⟩ := Kd.at_int (Kd.R_reads' hR).2.2 (rd l1 i) h2 h3
  cases e1
  obtain ⟨ad2, e2, hx2⟩ := Kd.at_int (Kd.R_reads' hR).2.2 j h4 h5
  cases e2
  simp only [add_plain] at hx1 hx2
  have p1 := eq_true h2
  have q1 := eq_true h3
  have p2 := eq_true h4
  have q2 := eq_true h5
  have hcc : W.cell? ⟨gC, 0, none⟩ = some u := (blk_cell hbk 0).trans rfl
  obtain ⟨y, hy⟩ : ∃ y_ : List Int, y_ = [rd x (rd l1 i), rd x j] := ⟨_, rfl⟩
  have NY := Aside0.mk hy
  clear hy hne hne' hlt hgC hbk hS hl hlen hle hr hj hR hB h0 h1 h2 h3 h4 h5 h6
  go_enter Tryd.func49, Tryd.ntmps49
  refine start_ (n := 14) (S := fun w' => w'.cell? ⟨gC, 0, none⟩ = some u ∧ w'.cell? ⟨g, (rd l1 i).toNat, none⟩ = some (.int .i64 (rd x (rd l1 i))) ∧ w'.cell? ⟨g, j.toNat, none⟩ = some (.int .i64 (rd x j))) (ds := [12, 13]) #[false, false, false, false, false, false, false, false, false, false, false, false, false, false] (by kernel_rfl) rfl rfl ⟨hcc, hx1, hx2⟩ (fun hHeld => ?_); refine with_tabW swC.tab0 swC.bits0 (fun HT_ HW_ => ?_)
  have n0_ := Aside0.mk (Kd.R_drew HR.out)
  have n1_ := Aside0.mk (below_drew1 HB.out)
  have n2_ := Aside0.mk (Kd.S_drew HS.out)
  have n3_ := Aside0.mk (blk_drew BK.out)
  have n4_ := Aside0.mk (show gC < W.drew.heap.size from HLT.out)
  clear HR HB HS BK HLT hcc hx1 hx2
  generalize W.drew = w2 at n0_ n1_ n2_ n3_ n4_ hHeld ⊢
  have HR := n0_
  have HB := n1_
  have HS := n2_
  have BK := n3_
  have HLT := n4_
  clear n0_ n1_ n2_ n3_ n4_
  refine pu 1 6 HT_ ?_
  refine pu 2 7 HT_ ?_
  refine pu 3 8 HT_ ?_
  refine pu 5 10 HT_ ?_
  refine pu 6 11 HT_ ?_
  refine pu 7 12 HT_ ?_
  refine pu 8 13 HT_ ?_
  refine take_ (i := 0) (N := some 5) (v := ?_) (a' := ?_) #[true, true, true, true, false, true, true, true, true, false, false, false, false, false] rfl rfl (take_ofW HT_.out HW_.out (by kernel_rfl)) (fun _ _ _ h => h) (Or.inl ⟨by rfl, ?_⟩) hHeld ?_ ?_
  rotate_left
  · rintro w' ⟨s0, s1, s2⟩
    go_simp
    with_reducible rfl
  rotate_left
  · simp only [Act.put, List.setIfInBounds_toArray, List.set_cons_zero, List.set_cons_succ, i64_w, i32_w]
    rfl
  refine take_ (i := 4) (N := some 9) (v := ?_) (a' := ?_) #[true, true, true, true, true, true, true, true, true, false, false, false, false, false] rfl rfl (take_ofW HT_.out HW_.out (by kernel_rfl)) (fun _ _ _ h => h) (Or.inl ⟨by rfl, ?_⟩) hHeld ?_ ?_
  rotate_left
  · rintro w' ⟨s0, s1, s2⟩
    go_simp
    with_reducible rfl
  rotate_left
  · simp only [Act.put, List.setIfInBounds_toArray, List.set_cons_zero, List.set_cons_succ, i64_w, i32_w]
    rfl
  refine take_ (i := 9) (N := some 14) (v := ?_) (a' := ?_) #[true, true, true, true, true, true, true, true, true, true, false, false, false, false] rfl rfl (take_ofW HT_.out HW_.out (by kernel_rfl)) (fun _ _ _ h => h) (Or.inl ⟨by rfl, ?_⟩) hHeld ?_ ?_
  rotate_left
  · rintro w' ⟨s0, s1, s2⟩
    go_simp
    with_reducible rfl
  rotate_left
  · simp only [Act.put, List.setIfInBounds_toArray, List.set_cons_zero, List.set_cons_succ, i64_w, i32_w]
    rfl
  refine one_ (i := 10) (N := some 15) #[true, true, true, true, true, true, true, true, true, true, true, false, false, false] rfl rfl (one_of HT_.out (by kernel_rfl)) (by decide) (fun K hK => ?_)
  refine Kd.R_lit_step (Kd.int .i64) _ 3 ?hg (N := 15) ?hd (xs := ([rd x (rd l1 i), rd x j] : List Int)) (inner := [.int .i64 (rd x (rd l1 i)), .int .i64 (rd x j)]) (ok := fun _ => True) (okp := fun _ => True) ?hr ?hp (fun _ hk => hk) trivial (Below.refl _ _) (Nat.le_refl _) (by simp) ?_; (case hd => rfl); (case hg => rfl); (case hr => first | (go_simp; done) | (go_simp; rfl)); (case hp => exact (Reps.one (show Kd.M (Kd.int .i64) _ _ _ (rd x (rd l1 i)) [.int .i64 (rd x (rd l1 i))] from rfl) (Reps.one (show Kd.M (Kd.int .i64) _ _ _ (rd x j) [.int .i64 (rd x j)] from rfl) (Reps.none _ _))))
  intro v3 w3 ho hb hg_ hnew_
  rw [← NY.out] at ho
  have hHeld3 : w3.cell? ⟨gC, 0, none⟩ = some u ∧ w3.cell? ⟨g, (rd l1 i).toNat, none⟩ = some (.int .i64 (rd x (rd l1 i))) ∧ w3.cell? ⟨g, j.toNat, none⟩ = some (.int .i64 (rd x j)) := ⟨(hb.cell (World.block_lt_of_cell? _ _ hHeld.1)).trans hHeld.1, (hb.cell (World.block_lt_of_cell? _ _ hHeld.2.1)).trans hHeld.2.1, (hb.cell (World.block_lt_of_cell? _ _ hHeld.2.2)).trans hHeld.2.2⟩
  have n0_ := Aside0.mk (Kd.R_below HR.out hb)
  have n1_ := bs HB hb
  have n2_ := Aside0.mk (Kd.S_elder' HS.out (Kd.R_base ho) hb)
  have n3_ := Aside0.mk (show w3.heap[gC]? = some (.cells #[u] 30 (0, 0)) from (hb.block gC HLT.out).trans BK.out)
  have n4_ := Aside0.mk (Nat.lt_of_lt_of_le HLT.out (below_size hb))
  have n5_ := Aside0.mk (Kd.R_lower ho (below_size HB.out))
  have n6_ := Aside0.mk (show ∀ k, v3.ownBlock = some k → w2.heap.size ≤ k from Kd.R_base ho)
  have n7_ := Aside0.mk (show g < w2.heap.size from World.block_lt_of_cell? _ _ hHeld.2.1)
  have n8_ := Aside0.mk (Kd.R_lt (Kd.S_R HS.out))
  have n9_ := Aside0.mk HLT.out
  obtain ⟨Ao, co, eo⟩ := Kd.R_slice ho
  subst eo
  clear HR HB HS BK HLT ho hb hg_ hnew_
  refine hK.out _ _ hHeld3 (fun hHeld => ?_)
  clear hK K hHeld3
  refine norm_ (a' := ?_) ?_ ?_
  rotate_left
  · show Act.put _ (some 15) _ = _
    simp only [Act.put, List.setIfInBounds_toArray, List.set_cons_zero, List.set_cons_succ, i64_w, i32_w]
    rfl
  refine one_ (i := 11) (N := some 16) #[true, true, true, true, true, true, true, true, true, true, true, true, false, false] rfl rfl (one_of HT_.out (by kernel_rfl)) (by decide) (fun K hK => ?_)
  refine value_ (w1 := ?_) (v := ?_) (by rfl) rfl ?_ ?_
  rotate_left 2
  · go_simp
    constructor
    · rfl
    · rfl
  refine hK.out _ _ ⟨((below_alloc (Below.refl _ _) _).cell (World.block_lt_of_cell? _ _ hHeld.1)).trans hHeld.1, ((below_alloc (Below.refl _ _) _).cell (World.block_lt_of_cell? _ _ hHeld.2.1)).trans hHeld.2.1, ((below_alloc (Below.refl _ _) _).cell (World.block_lt_of_cell? _ _ hHeld.2.2)).trans hHeld.2.2⟩ (fun hHeld5 => ?_)
  clear hK K
  refine norm_ (a' := ?_) ?_ ?_
  rotate_left
  · show Act.put _ (some 16) _ = _
    simp only [Act.put, List.setIfInBounds_toArray, List.set_cons_zero, List.set_cons_succ, i64_w, i32_w]
    rfl
  refine last_ (i := 12) (N := some 17) #[true, true, true, true, true, true, true, true, true, true, true, true, true, false] rfl rfl (one_of HT_.out (by kernel_rfl)) (by decide) (fun K hK => ?_)
  refine Kd.S_append_step (Kd.slice 3 (Kd.int .i64)) (w0 := W0) W0.heap.size (by rfl) (.tmp 5) (.tmp 16) 30 24 (.slice none 0 0) 24 rfl Tryd.underlying30 info24 rfl (by decide) (by omega) u rows y [.slice Ao y.length co] (fun k => some k ≠ (.slice (some ⟨g, 0, none⟩) x.length c : Value).ownBlock ∧ k ≠ gC) (fun k_ => some k_ = (.slice Ao y.length co : Value).ownBlock) rfl rfl ?aP ?aK ?aF ?aO ?aB ?aS ?aL ?_
  (case aP => exact Kd.M_row (Kd.R_tight rfl n5_.out))
  (case aK =>
    intro k hk
    have hk2 := n6_.out k hk.symm
    refine ⟨⟨fun he => ?_, ?_⟩, fun he => ?_⟩
    · have : k = g := by simpa [Value.ownBlock] using he
      have := n7_.out; omega
    · have := n9_.out; omega
    · have := n8_.out k he.symm; omega)
  (case aB => exact n1_.out)
  (case aF => exact (fun k hk => by
    have h7 := n7_.out
    have h9 := n9_.out
    have h4 := n4_.out
    have h10 : g < w3.heap.size := World.block_lt_of_cell? _ _ hHeld.2.1
    exact ⟨fun he => by have : k = g := (by simpa [Value.ownBlock] using he); omega, by omega⟩))
  (case aO => exact Kd.S_mono n2_.out (fun k hk => ⟨hk.1, hk.2⟩))
  (case aS => exact below_size n1_.out)
  (case aL => have := HL.out; omega)
  intro v4 w4 ho hb hg hat
  obtain ⟨A4, c4, rfl⟩ := Kd.S_slice ho
  rw [show (rows ++ [y]).length = rows.length + 1 by simp] at ho hat ⊢
  have hbk4 : w4.heap[gC]? = some (.cells #[u] 30 (0, 0)) := (hg.block gC n4_.out (fun he => by have := (Kd.S_R n2_.out).1 gC he.symm; exact this.1.2 rfl)).trans n3_.out
  have hr4 := Kd.R_over' n0_.out (Kd.S_typed n2_.out) (by decide) hg
  have hlt4 : gC < w4.heap.size := (Array.getElem?_eq_some_iff.1 hbk4).1
  have HR := Aside0.mk hr4
  have HB := Aside0.mk hb
  have HS := Aside0.mk ho
  have BK := Aside0.mk hbk4
  have HLT := Aside0.mk hlt4
  clear n0_ n1_ n2_ n3_ n4_ n5_ n6_ n7_ n8_ n9_ hr4 hb ho hbk4 hlt4 hg hat hHeld hHeld5
  refine hK.out _ _ ?_
  clear hK K
  refine norm_ (a' := ?_) ?_ ?_
  rotate_left
  · show Act.put _ (some 17) _ = _
    simp only [Act.put, List.setIfInBounds_toArray, List.set_cons_zero, List.set_cons_succ, i64_w, i32_w]
    rfl
  refine last_ (i := 13) (N := none) #[true, true, true, true, true, true, true, true, true, true, true, true, true, true] rfl rfl (one_of HT_.out (by kernel_rfl)) (by decide) (fun K hK => ?_)
  have hs35 : w4.cell? ⟨gC, 0, none⟩ = some u := (blk_cell BK.out 0).trans rfl
  have hfs35 := blk_frozen BK.out 0
  refine skip_ (w1 := ?_) (by rfl) rfl ?_ ?_
  rotate_left
  · go_simp
    rfl
  refine hK.out _ _ ?_
  clear hK K
  refine done_ (done_of HT_.out (by kernel_rfl)) ?_
  first | go_end0 | ((try simp only [Exit.inBlock, Exit.then]); refine bodyPost_ret (results_none rfl _ _ _) rfl ?_)
  refine ⟨rfl, ⟨HNE0.out, ?_, _, rows ++ [y], blk_put BK.out 0 _ rfl, Kd.S_far HS.out (fun k hk => hk.2) _, ?_, ?_, ?_⟩, ?_, HB.out.setCell HGC.out _⟩
  · exact (Array.getElem?_eq_some_iff.1 (blk_put BK.out 0 _ rfl)).1
  · have := HL.out
    rw [List.length_append, List.length_singleton]
    unfold wrap64; omega
  · have := HL.out
    unfold wrap64; omega
  · have hl := HL.out
    obtain ⟨n, rfl⟩ : ∃ n : Nat, i = (n : Int) := ⟨i.toNat, by omega⟩
    have hw : wrap64 ((n : Int) + 1) = ((n + 1 : Nat) : Int) := by unfold wrap64; omega
    have hn : n < l1.length := by omega
    have hrd : rd l1 (n : Int) = l1[n] := by simp [rd, List.getD_eq_getElem?_getD, hn]
    have hE := HE.out
    rw [Int.toNat_natCast, List.drop_eq_getElem_cons hn, ← hrd] at hE
    rw [hw, Int.toNat_natCast, NY.out, ← hE, List.append_assoc]
    simp only [swR, swX, HJ.out, List.singleton_append]
  · exact Kd.R_mono (Kd.R_far (Kd.R_tight rfl HR.out) (fun k hk => by have : k = g := (by simpa [Value.ownBlock] using hk); have := HNE.out; show k ≠ gC; omega) _) (fun _ _ => trivial)

set_option maxHeartbeats 8000000 in
set_option maxRecDepth 100000 in
theorem impl_SwapsOf.calls (k : Nat) (a0 : Int) (A1 : Option Addr) (c1 : Nat) (l1 : List Int) (r : List (List Int)) (w : World) (hr1 : Kd.C (Kd.int .i64) w A1 l1.length l1) (hc1 : l1.length ≤ c1) (h : impl_SwapsOf.f k a0 l1 = some r) :
    Calls Tryd.prog 23 #[.int .i64 a0, .slice A1 l1.length c1] w fun e w' => ∃ v0_ : Value, e = .returned (v0_) ∧ Kd.S (Kd.slice 3 (Kd.int .i64)) 24 w' w.heap.size (fun _ => True) v0_ r ∧ Below w.heap.size w w' := by
  have HR1 := Aside0.mk hr1
  have HC1 := Aside0.mk hc1
  have hmf : ∀ (fn : Fn) (first cap : Array Value) (w : World), (Instr.makeFunc fn first cap).run Tryd.prog w = .ok (.func fn first cap) w := fun _ _ _ _ => rfl
  clear hr1 hc1
  have H := h
  clear h
  unfold impl_SwapsOf.f at H
  replace H := Option.bind_eq_some_iff.mp H
  obtain ⟨b, A30, H⟩ := H
  have A3 := Aside0.mk A30
  clear A30
  cases b with
  | false =>
    simp only [Bool.false_eq_true, if_false] at H
    obtain rfl := Option.some.inj H
    clear H hmf
    go_enter Tryd.func23, Tryd.ntmps23
    go_wp2_with (first | (go_at_call 6; (with_reducible refine (impl_IsWiring.calls k a0 A1 c1 l1 _ _ HR1.out HC1.out A3.out).mono ?_); rintro e w4 ⟨rfl, hb⟩; have HB := Aside0.mk hb; clear hb))
    go_ret
    exact ⟨_, rfl, Kd.S_bare (Kd.R_nil _ _ _ _ _), HB.out⟩
  | true =>
    simp only [if_true] at H
    replace H := Option.bind_eq_some_iff.mp H
    obtain ⟨x0, A40, H⟩ := H
    have A4 := Aside0.mk A40
    clear A40
    replace H := Option.bind_eq_some_iff.mp H
    obtain ⟨b2, A50, H⟩ := H
    cases b2 with
    | false => exact absurd H (by simp)
    | true =>
      have A5 := Aside0.mk A50
      clear A50
      simp only [if_true] at H
      by_cases hl : l1.length < 1000000
      · rw [if_pos hl] at H
        have HE := Aside0.mk (Option.some.inj H)
        have HL := Aside0.mk hl
        clear H hl
        go_enter Tryd.func23, Tryd.ntmps23
        go_wp2_with (first | (go_at_call 6; (with_reducible refine (impl_IsWiring.calls k a0 A1 c1 l1 _ _ HR1.out HC1.out A3.out).mono ?_); rintro e w4 ⟨rfl, hb⟩; have HB := Aside0.mk hb; clear hb) | (go_at_call 30; refine (runS.calls k a0 _ A1 c1 l1 w _ (swInv w4.heap.size w.heap.size r l1) ?hd ?hs ?h0 ?hcl ?hb HR1.out HC1.out A5.out).mono ?_; (case hd => (rintro v W x i ⟨h1, h2, u, rows, h3, h4, h5⟩; exact ⟨h1, h2, u, rows, blk_drew h3, Kd.S_drew h4, h5⟩)); (case hs => (rintro g n c W x i o u' ⟨h1, h2, u, rows, h3, h4, h5⟩; have hne : w4.heap.size ≠ g := fun he => h1 (by rw [he]; rfl); have h3' := (Below.heap_setCell W ⟨g, o, none⟩ u' w4.heap.size hne).trans h3; exact ⟨h1, (Array.getElem?_eq_some_iff.1 h3').1, u, rows, h3', Kd.S_far h4 (fun k hk => (by have := hk.1; intro he; exact this (by rw [he]; rfl))) _, h5⟩)); (case h0 => (intro v W x hx hr hb; exact swStart hx A4.out HE.out hr hb)); (case hcl => exact swC.asks w4.heap.size r l1 w HB.out.size HL.out); (case hb => exact below_alloc HB.out _); rintro e w6 ⟨rfl, ⟨v, x, i, ⟨h1, h2, u, rows, h3, h4, h5, h6, h7⟩, hi⟩, hb⟩; have hcell := (blk_cell h3 0).trans rfl; have HS := Aside0.mk h4; have HX := Aside0.mk (swEnd h5 h6 h7 hi); have HB6 := Aside0.mk hb; clear h1 h2 h3 h4 h5 h6 h7 hi hb))
        go_ret
        exact ⟨_, rfl, by rw [← HX.out]; exact Kd.S_mono HS.out (fun _ _ => trivial), HB6.out⟩
      · rw [if_neg hl] at H
        exact absurd H (by simp)

end Go.Proofs.YtmidcafamppkeaaDoor.P
