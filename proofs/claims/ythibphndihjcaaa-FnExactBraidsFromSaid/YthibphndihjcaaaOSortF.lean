/- slices.SortFunc over rows of rows of numbers, compared by slices.Compare: by the shelf's contract. Conditions: fewer than 2^40 rows, each of fewer than 2^40 numbers. -/
import Derived.Test.YthibphndihjcaaaOPut
import Derived.Test.YthibphndihjcaaaCCmp
import Derived.Test.YthibphndihjcaaaP73
import Derived.Shelf.SlSortCmp.NoneTotal
import Derived.Shelf.Lay
import Derived.Ground.SlsfProg
namespace Go.Proofs.Ythibphndihjcaaa.P
open Go.RowKit Go.Proofs.YthibphndihjcaaaW.PrintWords Go.Proofs.YthibphndihjcaaaW.PrintLast Go.Proofs.YthibphndihjcaaaW.PrintMore
set_option linter.unusedVariables false
set_option linter.unusedSimpArgs false

def cpf.T6 : Bool × List (List Nat × List Nat) := (true, [([], []), ([], []), ([], []), ([1, 2], [1, 2]), ([3], [3]), ([], []), ([], []), ([6], [6]), ([5, 7], [5, 7]), ([8], [8]), ([0, 4, 9], [0, 4, 9])])
def cpf.B6 : List Nat := [0, 0, 0, 6, 14, 0, 0, 64, 224, 480, 1023]
theorem cpf.tab6 : rtab .any (opsOf Try.f92 6) = cpf.T6 := by kernel_rfl
theorem cpf.bits6 : waitsOk cpf.T6.2 cpf.B6 = true := by kernel_rfl
/-- A call of a function value that lies in a slot. -/
theorem goesv_ {P : Program} {ops : Array Oper} {Q : Exit → Act → World → Prop} {oi : Oper} {N : Option Tmp} {a : Act} {w : World} {K : Act → World → Prop} {f : FuncId} {fn : Func} {ar : Array Operand} {ts : Array TypeId} {x : Operand} (hf : P.funcs[f]? = some fn) (hname : (fn.name == "runtime.NumGoroutine") = false) (hb : fn.body.isSome = true) (args : Array Value)
    (hw : Region.wanted oi (yielded ops a.tmps) = true) (hN : oi.dst = N) (hop : oi.op = .call { callee := .value x, args := ar, argTypes := ts }) (hx : a.eval x = .func (.func f) #[] #[]) (hargs : ar.map a.eval = args)
    (h : Calls P f args w fun e w' => ∃ v, e = .returned v ∧ K (a.put N v) w') : if Region.wanted oi (yielded ops a.tmps) = true then Oper.wp P oi a w K Q else K (a.put N undef) w := by
  refine call_ f args hw hN ?_ h
  have he := enters_ hf hname hb args w
  unfold execOp
  simp [hop, resolve, Deferred.ofValue, invoke, hx, hargs, he]
theorem z_row {w : World} {base : Nat} {ok : Nat → Prop} {zs : List Zr} (hW : Rws w base ok zs) (j : Nat) (h : j < zs.length) : ∃ A c, zs[j].1 = (A, zs[j].2.length, c) ∧ zs[j].2.length ≤ c ∧ Kd.C (Kd.int .i64) w A zs[j].2.length zs[j].2 := by
  have hR := hW.1 zs[j] (List.getElem_mem h)
  generalize zs[j] = z at hR ⊢
  obtain ⟨A, c, e⟩ := Kd.R_slice hR
  obtain ⟨⟨z1, z2, z3⟩, zr⟩ := z
  unfold slV at e
  injection e with e1 e2 e3
  simp only at e1 e2 e3
  subst e1 e2 e3
  have := Kd.R_reads' hR
  exact ⟨_, _, rfl, this.2.1, this.2.2⟩
set_option maxHeartbeats 8000000 in
set_option maxRecDepth 100000 in
theorem slices_CompactFunc.calls (v : Value) (l : List (List Int)) (base : Nat) (w : World) (P0 : Nat → Prop) (hS : Kd.S (Kd.slice 3 (Kd.int .i64)) 22 w base P0 v l) (hlen : l.length < 1000000 ∧ ∀ r ∈ l, r.length < 1099511627776) (hne : ∀ i, i + 1 < l.length → l.getD (i + 1) [] ≠ l.getD i []) :
    Calls Try.prog 92 #[v, .func (.func 93) #[] #[]] w fun e w' => e = .returned v ∧ Below w.heap.size w w' := by
  obtain ⟨zs, rfl, hV, hW⟩ := S_split hS
  clear hS
  obtain ⟨A0, c0, e0⟩ := Kd.R_slice hV
  obtain ⟨n, hn⟩ : ∃ n, n = (zs.map (·.1)).length := ⟨_, rfl⟩
  rw [← hn] at e0
  subst e0
  have HV := Aside0.mk hV
  have HW := Aside0.mk hW
  have HL := Aside0.mk hlen
  have HN := Aside0.mk (show n = zs.length by rw [hn, List.length_map])
  have HE := Aside0.mk hne
  clear hV hW hlen hne hn
  by_cases hs : (n : Int) < 2
  · have hsb : decide ((n : Int) < 2) = true := decide_eq_true hs
    clear hs
    go_enter Try.func92, Try.ntmps92
    go_wp2
    go_ret
    exact ⟨rfl, Below.refl _ _⟩
  · have hsb : decide ((n : Int) < 2) = false := decide_eq_false hs
    have HS2 := Aside0.mk hs
    clear hs
    go_enter Try.func92, Try.ntmps92
    go_wp2
    go_loopg [5] n (fun kq v5 w' => ∃ (i : Int), v5 = .int .i64 i ∧ Aside0 (1 ≤ i ∧ i + (kq : Int) = (n : Int) + 1) ∧ Aside0 (Below w.heap.size w w'))
    case atStart => exact ⟨1, rfl, ⟨by omega⟩, ⟨Below.refl _ _⟩⟩
    case round =>
      obtain ⟨i, rfl, HI, HBw⟩ := hrel
      by_cases c4 : i < (n : Int)
      case neg =>
        have c4b : decide (i < (n : Int)) = false := decide_eq_false c4
        clear c4
        go_wp2
        go_ret
        exact ⟨rfl, HBw.out⟩
      case pos =>
        have c4b : decide (i < (n : Int)) = true := decide_eq_true c4
        obtain ⟨gk', hgk⟩ : ∃ m, gk = m + 1 := ⟨gk - 1, by have := HI.out; omega⟩
        have hV' := Kd.R_below HV.out HBw.out
        have hpos : 0 < (zs.map (·.1)).length := by rw [List.length_map, ← HN.out]; have := HI.out; omega
        obtain ⟨g, cg, eg, _, _, _⟩ := Kd.R_form hV' hpos
        obtain ⟨rfl, eg2, rfl⟩ : A0 = some ⟨g, 0, none⟩ ∧ n = (zs.map (·.1)).length ∧ c0 = cg := by injection eg with a b c; exact ⟨a, b, c⟩
        obtain ⟨j, hj⟩ : ∃ j : Int, i - 1 = j := ⟨_, rfl⟩
        have hnl := HN.out
        have hi1 := HI.out.1
        have hl6 : n < 1000000 := by have := HL.out.1; rw [List.length_map] at this; omega
        have hjv : wrap64 (i - 1) = j := by rw [← hj]; unfold wrap64; omega
        have hjw : IntKind.i64.wrap (i - 1) = j := (i64_w _).trans hjv
        have hnv : wrap64 (i + 1) = i + 1 := by unfold wrap64; omega
        have hnw : IntKind.i64.wrap (i + 1) = i + 1 := (i64_w _).trans hnv
        have hiN : i.toNat < zs.length := by omega
        have hjN : j.toNat < zs.length := by omega
        obtain ⟨hx1, _⟩ := Kd.R_celln (none, 0, 0) hV' i (by omega) c4
        obtain ⟨hx2, _⟩ := Kd.R_celln (none, 0, 0) hV' j (by omega) (by omega)
        obtain ⟨Ai, ci, e1, l1, r1⟩ := z_row HW.out i.toNat hiN
        obtain ⟨Aj, cj, e2, l2, r2⟩ := z_row HW.out j.toNat hjN
        have hr1 : rdOf (none, 0, 0) (zs.map (·.1)) i = (Ai, zs[i.toNat].2.length, ci) := by unfold rdOf; rw [List.getD_eq_getElem?_getD, List.getElem?_map, List.getElem?_eq_getElem hiN, ← e1]; rfl
        have hr2 : rdOf (none, 0, 0) (zs.map (·.1)) j = (Aj, zs[j.toNat].2.length, cj) := by unfold rdOf; rw [List.getD_eq_getElem?_getD, List.getElem?_map, List.getElem?_eq_getElem hjN, ← e2]; rfl
        rw [hr1] at hx1
        rw [hr2] at hx2
        have hdiff : zs[i.toNat].2 ≠ zs[j.toNat].2 := by
          have := HE.out j.toNat (by rw [List.length_map]; omega)
          rw [show j.toNat + 1 = i.toNat by omega, List.getD_eq_getElem?_getD, List.getD_eq_getElem?_getD, List.getElem?_map, List.getElem?_map, List.getElem?_eq_getElem hiN, List.getElem?_eq_getElem hjN] at this
          exact this
        have hls1 := HL.out.2 zs[i.toNat].2 (List.mem_map.mpr ⟨_, List.getElem_mem hiN, rfl⟩)
        have r1' := Kd.C_below r1 HBw.out
        have r2' := Kd.C_below r2 HBw.out
        generalize zs[i.toNat].2 = y1 at hx1 l1 r1' hdiff hls1
        generalize zs[j.toNat].2 = y2 at hx2 l2 r2' hdiff
        obtain ⟨K, hK⟩ := eq_rows y1 y2 hls1
        rw [decide_eq_false hdiff] at hK
        have AE := Aside0.mk (hK K (Nat.le_refl _))
        have HR1 := Aside0.mk (And.intro l1 r1')
        have HR2 := Aside0.mk (And.intro l2 r2')
        have p1 := eq_true (show 0 ≤ i by omega)
        have q1 := eq_true c4
        have p2 := eq_true (show 0 ≤ j by omega)
        have q2 := eq_true (show j < (n : Int) by omega)
        replace hx1 : wr.cell? ⟨g, i.toNat, none⟩ = some (.slice Ai y1.length ci) := hx1
        replace hx2 : wr.cell? ⟨g, j.toNat, none⟩ = some (.slice Aj y2.length cj) := hx2
        have HGK := Aside0.mk hgk
        have HJ := Aside0.mk (And.intro hi1 (And.intro hl6 hj))
        clear e1 e2 r1 r2 hr1 hr2 hdiff hls1 hK l1 l2 r1' r2' hV' hpos eg eg2 hnl hj hl6 hi1 hiN hjN c4 hgk
        try go_wp2
        (try (go_end0; (try go_wp2)))
        have n1_ := Aside0.mk (below_drew1 HBw.out)
        have n2_ := Aside0.mk (And.intro HR1.out.1 (Kd.C_drew HR1.out.2))
        have n3_ := Aside0.mk (And.intro HR2.out.1 (Kd.C_drew HR2.out.2))
        clear HBw HR1 HR2
        refine start_ (n := 11) (S := fun w' => w'.cell? ⟨g, i.toNat, none⟩ = some (.slice Ai y1.length ci) ∧ w'.cell? ⟨g, j.toNat, none⟩ = some (.slice Aj y2.length cj)) (ds := []) #[false, false, false, false, false, false, false, false, false, false, false] (by kernel_rfl) rfl rfl ⟨hx1, hx2⟩ (fun hHeld => ?_); refine with_tabW cpf.tab6 cpf.bits6 (fun HT_ HW_ => ?_)
        generalize wr.drew = w2 at n1_ n2_ n3_ hHeld ⊢
        have HBw := n1_
        have HR1 := n2_
        have HR2 := n3_
        clear n1_ n2_ n3_
        refine pu 0 18 HT_ ?_
        refine pu 1 19 HT_ ?_
        refine pu 2 20 HT_ ?_
        refine pu 3 21 HT_ ?_
        refine pu 5 23 HT_ ?_
        refine pu 6 24 HT_ ?_
        refine pu 7 25 HT_ ?_
        refine pu 8 26 HT_ ?_
        refine take_ (i := 4) (N := some 22) (v := ?_) (a' := ?_) #[true, true, true, true, true, true, true, true, true, false, false] rfl rfl (take_ofW HT_.out HW_.out (by kernel_rfl)) (fun _ _ _ h => h) (Or.inl ⟨by rfl, ?_⟩) hHeld ?_ ?_
        rotate_left
        · rintro w' ⟨s0, s1⟩
          go_simp
          with_reducible rfl
        rotate_left
        · simp only [Act.put, List.setIfInBounds_toArray, List.set_cons_zero, List.set_cons_succ, i64_w, i32_w]
          rfl
        refine take_ (i := 9) (N := some 27) (v := ?_) (a' := ?_) #[true, true, true, true, true, true, true, true, true, true, false] rfl rfl (take_ofW HT_.out HW_.out (by kernel_rfl)) (fun _ _ _ h => h) (Or.inl ⟨by rfl, ?_⟩) hHeld ?_ ?_
        rotate_left
        · rintro w' ⟨s0, s1⟩
          go_simp
          with_reducible rfl
        rotate_left
        · simp only [Act.put, List.setIfInBounds_toArray, List.set_cons_zero, List.set_cons_succ, i64_w, i32_w]
          rfl
        refine one_ (i := 10) (N := some 28) #[true, true, true, true, true, true, true, true, true, true, true] rfl rfl (one_of HT_.out (by kernel_rfl)) (by decide) (fun K hK => ?_)
        refine goesv_ Try.func93 (by kernel_rfl) rfl #[.slice Ai y1.length ci, .slice Aj y2.length cj] (by rfl) rfl rfl (by rfl) (by (try simp only [List.map_toArray, List.map_cons, List.map_nil]); first | done | rfl) ?_
        (with_reducible refine (slices_Equal_int_int.calls _ Ai ci y1 Aj cj y2 _ _ HR1.out.2 HR1.out.1 HR2.out.2 HR2.out.1 AE.out).mono ?_)
        rintro e w6 ⟨rfl, ⟨nd6, rfl⟩⟩
        refine ⟨_, rfl, ?_⟩
        refine hK.out _ _ hHeld (fun hHeld => ?_)
        clear hK K
        refine norm_ (a' := ?_) ?_ ?_
        rotate_left
        · show Act.put _ (some 28) _ = _
          simp only [Act.put, List.setIfInBounds_toArray, List.set_cons_zero, List.set_cons_succ, i64_w, i32_w]
          rfl
        refine done_ (done_of HT_.out (by kernel_rfl)) ?_
        have n1_ := Aside0.mk (pw_below_drewN HBw.out nd6)
        clear hHeld hx1 hx2 HR1 HR2 HBw
        generalize w2.drewN nd6 = w3 at n1_ ⊢
        go_wp2
        go_roundg gk'
        case measure => have := HGK.out; omega
        case rel => exact ⟨i + 1, by first | rfl | (simp only [hnw]) | (simp [hnw]), ⟨by have h1 := HI.out; have h2 := HGK.out; omega⟩, n1_⟩

end Go.Proofs.Ythibphndihjcaaa.P
namespace Go.Proofs
open Go.Shelf
shelf_lay_g SlLaysF.n6 Slsf 6 at Try 90 as Try.sortRows
end Go.Proofs
namespace Go.Proofs.Ythibphndihjcaaa.P
open Go.RowKit Go.Sort Go.Proofs.YthibphndihjcaaaW.PrintWords Go.Proofs.YthibphndihjcaaaW.PrintLast Go.Proofs.YthibphndihjcaaaW.PrintMore
set_option linter.unusedVariables false
set_option linter.unusedSimpArgs false

/-! ### a row of one's own behind the sort, at whatever elements of one cell -/
theorem holds_of_blockE {α : Type} [Inhabited α] {enc : α → Value} {w : World} {g : Nat} {cur : Array Value} {e : TypeId} {ss : List α} (hb : w.heap[g]? = some (.cells cur e (0, 0))) (ht : cur.toList.take ss.length = ss.map enc) : Holds enc w g 0 ss.toArray := by
  intro j hj
  have hj' : j < ss.length := by simpa using hj
  refine ⟨?_, by simp [World.frozen?, hb]⟩
  have h1 : (cur.toList.take ss.length)[j]? = (ss.map enc)[j]? := by rw [ht]
  rw [List.getElem?_take_of_lt hj'] at h1
  simp only [World.cell?, hb, Nat.zero_add]
  simp only [Option.isSome_none, Bool.false_eq_true, if_false]
  rw [← Array.getElem?_toList, h1]
  simp [hj']
theorem heap_sortedE {α : Type} [Inhabited α] {enc : α → Value} {w : World} {g n : Nat} {os : Array Obj} {cur : Array Value} {e : TypeId} {fr : Nat × Nat} (d : Array α) (hb : w.heap[g]? = some (.cells cur e fr)) :
    (grow (putRow enc (Sort.ahead w n) g 0 d) os).heap[g]? = some (.cells (putCells enc 0 d cur) e fr) := by
  have hg : g < w.heap.size := (Array.getElem?_eq_some_iff.1 hb).1
  rw [heap_grow_old _ _ (by simpa using hg)]
  simp [putRow, mapBlock, Sort.ahead, Array.getElem?_modify, hb, onCells]
theorem grownBy_sortedE {α : Type} [Inhabited α] {enc : α → Value} {w : World} {g n : Nat} {os : Array Obj} (d : Array α) : w.grownBy (grow (putRow enc (Sort.ahead w n) g 0 d) os) (some g) := by
  refine ⟨rfl, rfl, rfl, by simp, fun k hk hne => ?_⟩
  rw [heap_grow_old _ _ (by simpa using hk)]
  have : g ≠ k := fun e => hne (by rw [e])
  simp [putRow, mapBlock, Sort.ahead, Array.getElem?_modify, this]
theorem take_putCellsE {α : Type} [Inhabited α] {enc : α → Value} (cur : Array Value) (ts : List α) (h : ts.length ≤ cur.size) : (putCells enc 0 ts.toArray cur).toList.take ts.length = ts.map enc := by
  apply List.ext_getElem?
  intro j
  by_cases hj : j < ts.length
  · rw [List.getElem?_take_of_lt hj, Array.getElem?_toList]
    simp [putCells, hj, show j < cur.size by omega]
  · rw [List.getElem?_take_eq_none (by omega), List.getElem?_eq_none (by simp; omega)]
theorem ownsRow_sortedE {α : Type} [Inhabited α] {enc : α → Value} {w : World} {base g cap n : Nat} {e : TypeId} {os : Array Obj} {cur : Array Value} {ts : List α} {m : Nat} (hl : ts.length = m) (hbase : base ≤ g) (hb : w.heap[g]? = some (.cells cur e (0, 0)))
    (h1 : m ≤ cap) (h2 : cap ≤ maxLen) (h3 : cur.size = cap * 1) :
    (grow (putRow enc (Sort.ahead w n) g 0 ts.toArray) os).ownsRow base e 1 (.slice (some ⟨g, 0, none⟩) m cap) m (ts.map enc) :=
  ⟨by simp [hl], .inr ⟨g, cap, _, rfl, hbase, heap_sortedE _ hb, h1, h2, by simp [putCells, h3], by rw [Nat.mul_one, ← hl]; exact take_putCellsE cur ts (by omega)⟩⟩
/-- Row j; past the end the first one. -/
def zat (z0 : Zr) (zs : List Zr) (j : Nat) : Zr := zs.getD j z0
theorem zat_range (z0 : Zr) (zs : List Zr) : (List.range zs.length).map (zat z0 zs) = zs := by
  refine List.ext_getElem (by simp) (fun i h1 h2 => ?_)
  rw [List.getElem_map, List.getElem_range]
  unfold zat
  rw [List.getD_eq_getElem?_getD, List.getElem?_eq_getElem h2]; rfl
theorem zat_mem (z0 : Zr) (zs : List Zr) (h0 : z0 ∈ zs) (j : Nat) : zat z0 zs j ∈ zs := by
  unfold zat
  rw [List.getD_eq_getElem?_getD]
  cases h : zs[j]? with
  | none => exact h0
  | some z => exact List.mem_of_getElem? h
def zEnc (z0 : Zr) (zs : List Zr) (j : Nat) : Value := slV (zat z0 zs j).1
def zCf (z0 : Zr) (zs : List Zr) (i j : Nat) : Int := cmpL (zat z0 zs i).2 (zat z0 zs j).2
theorem zCf_lt (z0 : Zr) (zs : List Zr) (i j : Nat) : ltOf (zCf z0 zs) i j = lx (zat z0 zs i).2 (zat z0 zs j).2 := by
  unfold ltOf zCf
  exact cmpL_neg _ _
theorem zCf_swo (z0 : Zr) (zs : List Zr) : SWO (ltOf (zCf z0 zs)) where
  irrefl x := by rw [zCf_lt]; exact lx_irr _
  trans x y z h1 h2 := by rw [zCf_lt] at *; exact lx_trans _ _ _ h1 h2
  ntrans x y z h1 h2 := by rw [zCf_lt] at *; exact lx_ntrans _ _ _ h1 h2
theorem sort_read {w : World} {g m : Nat} {z0 : Zr} {zs : List Zr} {dk : Array Nat} {os : Array Obj} {ok : Nat → Prop} {base : Nat} (hW : Rws w base ok zs) (hne : ∀ k, ok k → k ≠ g) (z : Zr) (hz : z ∈ zs) : ∃ n c, slV z.1 = .slice z.1.1 n c ∧ n = z.2.length ∧ z.2.length ≤ c ∧ Kd.C (Kd.int .i64) (sortWorld (zEnc z0 zs) w g 0 m dk os) z.1.1 z.2.length z.2 := by
  have hR := hW.1 z hz
  obtain ⟨A, c, e⟩ := Kd.R_slice hR
  obtain ⟨⟨z1, z2, z3⟩, zr⟩ := z
  unfold slV at e
  injection e with e1 e2 e3
  simp only at e1 e2 e3
  subst e1 e2 e3
  have hR2 := Kd.R_step (w1 := sortWorld (zEnc z0 zs) w g 0 m dk os) hR (fun k hk hlt => by
    have hg := grownBy_sortedE (enc := zEnc z0 zs) (w := w) (g := g) (n := m) (os := os) dk
    exact hg.block k hlt (fun he => hne k hk (Option.some.inj he)))
  have := Kd.R_reads' hR2
  exact ⟨_, _, rfl, rfl, this.2.1, this.2.2⟩
set_option maxRecDepth 100000 in
theorem sort_cmp {w : World} {g : Nat} {z0 : Zr} {zs : List Zr} {ok : Nat → Prop} {base : Nat} (h0 : z0 ∈ zs) (hW : Rws w base ok zs) (hne : ∀ k, ok k → k ≠ g) (hlen : ∀ z ∈ zs, z.2.length < 1099511627776) : CmpLays1 Try.prog 91 #[] (zEnc z0 zs) (zCf z0 zs) g 0 zs.length w := by
  intro m os dk _ x y
  obtain ⟨n1, c1, e1, rfl, l1, r1⟩ := sort_read (m := m) (z0 := z0) (dk := dk) (os := os) hW hne (zat z0 zs x) (zat_mem z0 zs h0 x)
  obtain ⟨n2, c2, e2, rfl, l2, r2⟩ := sort_read (m := m) (z0 := z0) (dk := dk) (os := os) hW hne (zat z0 zs y) (zat_mem z0 zs h0 y)
  obtain ⟨K, hK⟩ := cmp_rows (zat z0 zs x).2 (zat z0 zs y).2 (hlen _ (zat_mem z0 zs h0 x)) (hlen _ (zat_mem z0 zs h0 y))
  have := slices_Compare_int_int.calls K _ c1 _ _ c2 _ _ _ r1 l1 r2 l2 (hK K (Nat.le_refl _))
  show Calls Try.prog 91 #[slV (zat z0 zs x).1, slV (zat z0 zs y).1] _ _
  rw [e1, e2]
  refine this.mono ?_
  rintro e w' ⟨rfl, hd⟩
  obtain ⟨q, rfl⟩ := hd.out
  exact ⟨rfl, q, #[], by rw [grow_empty]⟩
set_option maxHeartbeats 2000000 in
set_option maxRecDepth 100000 in
theorem slices_SortFunc.calls (v : Value) (l : List (List Int)) (w0 w : World) (P0 : Nat → Prop) (hB : Below w0.heap.size w0 w) (hS : Kd.S (Kd.slice 3 (Kd.int .i64)) 22 w w0.heap.size P0 v l) (hlen : l.length < 1099511627776 ∧ ∀ r ∈ l, r.length < 1099511627776) :
    Calls Try.prog 90 #[v, .func (.func 91) #[] #[]] w fun e w' => e = .returned (.tuple #[]) ∧ Kd.S (Kd.slice 3 (Kd.int .i64)) 22 w' w0.heap.size P0 v (lsrt l) ∧ Below w0.heap.size w0 w' ∧ Kept w w' P0 := by
  obtain ⟨zs, rfl, hV, hW⟩ := S_split hS
  have hP := (Kd.S_R hS).1
  have ho := Kd.own_of_R hV
  rw [List.length_map] at ho
  cases hz : zs with
  | nil =>
    subst hz
    obtain ⟨A, c, rfl⟩ := Kd.R_slice hV
    refine (AnyF.slices_SortFunc_none (P := Try.prog) (ρ := Try.sortRows_ren) { Try.sortRows with } A c _ w).mono ?_
    rintro e w' ⟨rfl, rfl⟩
    exact ⟨rfl, hS, hB, Kept.refl _ _⟩
  | cons z0 zr =>
    have h0 : z0 ∈ zs := by rw [hz]; exact List.mem_cons_self
    have hpos : 0 < zs.length := by rw [hz]; simp
    rw [← hz]
    clear hz
    rcases ho.2 with ⟨_, h0⟩ | ⟨g, cap, cur, rfl, hg, hb, h1, h2, h3, h4⟩
    · omega
    · have hgl : g < w.heap.size := (Array.getElem?_eq_some_iff.1 hb).1
      have hWne : ∀ k, (P0 k ∧ some k ≠ (Value.slice (some ⟨g, 0, none⟩) zs.length cap).ownBlock) → k ≠ g := fun k hk he => hk.2 (by rw [he]; rfl)
      have hen : (List.range zs.length).map (zEnc z0 zs) = zs.map (fun z => slV z.1) := by
        conv => rhs; rw [← zat_range z0 zs]
        rw [List.map_map]; rfl
      have henc : encs slV (zs.map (·.1)) = zs.map (fun z => slV z.1) := by
        unfold encs
        rw [List.map_map]; rfl
      have hH : Holds (zEnc z0 zs) w g 0 (List.range zs.length).toArray := holds_of_blockE hb (by
        rw [List.length_range, hen, ← henc]
        rw [Nat.mul_one] at h4
        exact h4)
      have hsz : (List.range zs.length).toArray.size = zs.length := by simp
      have eg : ∀ args w, (callFunc 91 args).run Try.prog w = .ok (.enter 91 args) w := enters_of Try.func91 (by kernel_rfl) rfl
      have hcmp := sort_cmp (g := g) h0 hW hWne (fun z hz => hlen.2 z.2 (List.mem_map.mpr ⟨z, hz, rfl⟩))
      have hlz : zs.length < 1099511627776 := by have := hlen.1; rwa [List.length_map] at this
      have hcon := Any.slices_SortFunc Try.sortRows (zEnc z0 zs) (fun _ => rfl) (zCf z0 zs) (zCf_swo z0 zs) 91 #[] g 0 cap (List.range zs.length).toArray w eg (by rw [hsz]; exact hcmp) hH hgl (by rw [hsz]; omega)
      rw [hsz] at hcon
      refine hcon.mono ?_
      rintro e w' ⟨rfl, d', n, os, hperm, hsort, rfl⟩
      have hd1 : d'.size = zs.length := by have := hperm.1; rw [hsz] at this; exact this
      have hd2 : d'.toList.Perm (List.range zs.length) := by
        have h := hperm.2.2
        have e1 : d'.extract 0 zs.length = d' := by rw [← hd1]; exact Array.extract_size
        have e2 : (List.range zs.length).toArray.extract 0 zs.length = (List.range zs.length).toArray := by
          conv => lhs; arg 3; rw [← hsz]
          exact Array.extract_size
        rw [e1, e2] at h
        exact h
      obtain ⟨ys, hys⟩ : ∃ ys, ys = d'.toList.map (zat z0 zs) := ⟨_, rfl⟩
      have hyl : ys.length = zs.length := by rw [hys, List.length_map, Array.length_toList, hd1]
      have hyp : zs.Perm ys := by
        have := hd2.map (zat z0 zs)
        rw [zat_range] at this
        rw [hys]; exact this.symm
      have hye : d'.toList.map (zEnc z0 zs) = encs slV (ys.map (·.1)) := by
        unfold encs
        rw [hys, List.map_map, List.map_map]; rfl
      have hgr := grownBy_sortedE (enc := zEnc z0 zs) (w := w) (g := g) (n := n) (os := os) d'
      have hnew := ownsRow_sortedE (enc := zEnc z0 zs) (n := n) (os := os) (base := w0.heap.size) (ts := d'.toList) (m := zs.length) (by rw [Array.length_toList, hd1]) hg hb h1 h2 h3
      rw [Array.toArray_toList, hye] at hnew
      have hord : (ys.map (·.2)).Pairwise lxLe := by
        refine List.pairwise_iff_getElem.mpr (fun i j hi hj hij => ?_)
        rw [List.length_map, hyl] at hi hj
        have := hsort i j (Nat.zero_le _) hij (by exact hj)
        rw [zCf_lt] at this
        have ei : ∀ k (h : k < d'.size), d'[k]! = d'[k] := fun k h => getElem!_pos d' k h
        rw [ei i (by omega), ei j (by omega)] at this
        unfold lxLe
        simp only [hys, List.getElem_map, Array.getElem_toList]
        exact this
      have hone := lsrt_one (zs.map (·.2)) (ys.map (·.2)) hord (hyp.symm.map _)
      rw [← hone]
      refine ⟨rfl, ?_, hB.grown hgr (below_size hB) (fun k hk => ?_), (Kept.refl w _).of_grown hgr (fun k hk => ?_)⟩
      · refine S_join (okv := fun k => k = g) (okr := fun k => P0 k ∧ some k ≠ (Value.slice (some ⟨g, 0, none⟩) zs.length cap).ownBlock) ?_ ((hW.step (fun k hk hlt => hgr.block k hlt (fun he => hWne k hk (Option.some.inj he)))).perm hyp) (fun k hk => by rw [hk]; exact hP g rfl) (fun k hk => hk)
        refine Kd.R_of_own (by rw [List.length_map, hyl]; exact hnew) (fun k hk => ?_)
        have : some g = some k := hk
        exact (Option.some.inj this).symm
      · have : some g = some k := hk
        rw [← Option.some.inj this]; exact hg
      · have : some g = some k := hk
        rw [← Option.some.inj this]; exact .inl (hP g rfl)
end Go.Proofs.Ythibphndihjcaaa.P
