/- The closure of impl.cellsOf: what a call of it computes. Conditions: what it captured lies in blocks of their own. -/
import Derived.Test.YthibphndihjcaaaORunC
import Derived.Test.YthibphndihjcaaaOTk
import Derived.Test.YthibphndihjcaaaWAll2
namespace Go.Proofs.Ythibphndihjcaaa.P
open Go.RowKit Go.Proofs.YthibphndihjcaaaW.PrintWords Go.Proofs.YthibphndihjcaaaW.PrintLast Go.Proofs.YthibphndihjcaaaW.PrintMore
set_option linter.unusedVariables false
set_option linter.unusedSimpArgs false

abbrev CE := S58
abbrev ceZ : CE := z58
abbrev ceK : Kd CE := k58
/-- The cells of a cell. -/
def ceC (c : CE) : List Value := [.int .i64 c.f0, .int .i64 c.f1, .int .i64 c.f2, .int .i64 c.f3, .int .i64 c.f4]
theorem ceC_one (c : CE) : ∀ y ∈ ceC c, y.oneCell' = true := by unfold ceC; simp [Value.oneCell']
/-- 1 << a, as the walk has it. -/
def ceBit (a : Int) : Int := wrap64 (2 ^ min a.toNat 64)
def ceMark (c : CE) (k : Int) : CE := ⟨c.f0, c.f1, c.f2, k, c.f4⟩
def ceNew (c : CE) (k a b : Int) : CE := ⟨2, Go.bits .or .i64 (ceBit a) (ceBit b), k, 0, Go.bits .or .i64 (Go.bits .andNot .i64 c.f4 (ceBit a)) (ceBit b)⟩
def ceAdd (c : CE) (b : Int) : CE := ⟨wrap64 (c.f0 + 1), Go.bits .or .i64 c.f1 (ceBit b), c.f2, c.f3, c.f4⟩
def ceSetN (now : List CE) (j : Int) (f : CE → CE) : List CE := now.set j.toNat (f (now.getD j.toNat ceZ))
/-- The wires behind one exchange, as the program does it. -/
def ceSw (x : List Int) (p : Int) : List Int := (x.set p.toNat (rd x (wrap64 (p + 1)))).set (wrap64 (p + 1)).toNat (rd x p)
/-- The cells that are open, behind one exchange. -/
def ceNow (now : List CE) (k p j q a b : Int) : List CE := ceSetN (ceSetN (ceSetN (ceSetN now j (ceMark · k)) j (ceNew · k a b)) p (ceAdd · b)) q (ceAdd · a)
/-- The cells that are shut. -/
def ceOut (now : List CE) (out : List (List CE)) (k j : Int) : List (List CE) := out.set j.toNat (out.getD j.toNat [] ++ [(ceSetN now j (ceMark · k)).getD j.toNat ceZ])
/-- The exchanges that are left. -/
def ceRun : List Int → List Int → Int → List CE → List (List CE) → List CE × List (List CE)
  | _, [], _, now, out => (now, out)
  | x, p :: w, k, now, out => ceRun (ceSw x p) w (wrap64 (k + 1)) (ceNow now k p (wrap64 (p + 1)) (wrap64 (p + 2)) (rd x p) (rd x (wrap64 (p + 1)))) (ceOut now out k (wrap64 (p + 1)))
/-- What is kept between two exchanges. -/
def ceInv (gK gN gO gn go m cn co base : Nat) (r : List CE × List (List CE)) (l1 : List Int) (v : Value) (W : World) (x : List Int) (i : Int) : Prop :=
  (∀ k, v.ownBlock = some k → gK < k) ∧ (∀ y ∈ x, 0 ≤ y) ∧ x.length + 1 = m ∧ i ≤ l1.length ∧ ∃ (now : List CE) (out : List (List CE)), W.heap[gK]? = some (.cells #[.int .i64 i] 3 (0, 0)) ∧ W.heap[gN]? = some (.cells #[.slice (some ⟨gn, 0, none⟩) m cn] 56 (0, 0)) ∧ W.heap[gO]? = some (.cells #[.slice (some ⟨go, 0, none⟩) m co] 54 (0, 0)) ∧ Kd.R ceK 58 W base (fun k => k = gn) (.slice (some ⟨gn, 0, none⟩) m cn) now ∧ Kd.S (Kd.slice 58 ceK) 56 W base (fun k => k = go ∨ (gK < k ∧ some k ≠ v.ownBlock)) (.slice (some ⟨go, 0, none⟩) m co) out ∧ (∀ y ∈ out, (y.length : Int) ≤ i) ∧ ceRun x (l1.drop i.toNat) i now out = r
theorem at_LCE {w : World} {A : Option Addr} {n : Nat} {xs : List (List CE)} (h : Kd.C (Kd.slice 58 ceK) w A n xs) (i : Int) (h0 : 0 ≤ i) (h1 : i < n) : ∃ ad A0 c0, A = some ad ∧ w.cell? (ad.add i.toNat) = some (.slice A0 (xs.getD i.toNat []).length c0) ∧ (xs.getD i.toNat []).length ≤ c0 ∧ Kd.C ceK w A0 (xs.getD i.toNat []).length (xs.getD i.toNat []) := by
  obtain ⟨ad, c, e, _, hK, hc0⟩ := Kd.C_get h ([] : List CE) i h0 h1
  have hc : ∀ j u, c[j]? = some u → w.cell? (ad.add (i.toNat * 1 + j)) = some u := hc0
  obtain ⟨A0, c0, rfl, l0, g0⟩ := hK
  exact ⟨ad, A0, c0, e, by have hq := hc 0 _ rfl; rwa [Nat.mul_one, Nat.add_zero] at hq, l0, g0⟩
theorem ce_at {W : World} {base g n cap : Nat} {ok : Nat → Prop} {xs : List CE} (h : Kd.R ceK 58 W base ok (.slice (some ⟨g, 0, none⟩) n cap) xs) (i : Int) (h0 : 0 ≤ i) (h1 : i < n) : ∀ j u, (ceC (xs.getD i.toNat ceZ))[j]? = some u → W.cell? ⟨g, i.toNat * 5 + j, none⟩ = some u := by
  obtain ⟨c, hcl, hM, hcc, _⟩ := Kd.R_elem h ceZ i h0 h1
  obtain rfl := k58_openM hM
  exact hcc
section
variable {P : Program} {ops : Array Oper} {rest : List Oper} {o : Oper} {a : Act} {Q : Exit → Act → World → Prop} {K : Act → World → Prop}
/-- A store into a cell of a row of cells, in a plain region and in a drawing one. -/
theorem ce_stL {W : World} {base g n cap q : Nat} {xs : List CE} (i : Int) (j : Nat) (x' : CE) {u : Value} {seg : List Value} {ok : Nat → Prop} (hN : o.dst = none) (hgd : o.guard = none) (t : TypeId) (p x : Operand) (ho : o.op = .store t p x)
    (HO : Kd.R ceK 58 W base ok (.slice (some ⟨g, 0, none⟩) n cap) xs) (h0 : 0 ≤ i) (hi : i < n) (haddr : a.eval p = .pointer (some ⟨g, q, none⟩)) (hq : q = i.toNat * 5 + j) (hx : a.eval x = u) (hu : u.cells.toList = seg) (ht : (P.info? t).map (·.size) = some seg.length) (hone : ∀ y ∈ seg, y.oneCell' = true) (hj : j + seg.length ≤ 5)
    (hx' : (ceC (xs.getD i.toNat ceZ)).take j ++ seg ++ (ceC (xs.getD i.toNat ceZ)).drop (j + seg.length) = ceC x')
    (h : ∀ w1, Kd.R ceK 58 w1 base ok (.slice (some ⟨g, 0, none⟩) n cap) (xs.set i.toNat x') → W.grownBy w1 (some g) → wpList P ops Q rest a w1) : wpList P ops Q (o :: rest) a W :=
  st_rowL ceK hN hgd t p x ho i j x' (okp := fun _ => False) haddr hq hx hu ht hone HO h0 hi rfl (ce_at HO i h0 hi) hj (by rw [hx']; exact k58_mkM _ _ _ _) (fun _ hk => hk.elim) h
theorem ce_stD {W : World} {base g n cap q : Nat} {xs : List CE} (i : Int) (j : Nat) (x' : CE) {u : Value} {seg : List Value} {ok : Nat → Prop} (hw : Region.wanted o (yielded ops a.tmps) = true) (hN : o.dst = none) (t : TypeId) (p x : Operand) (ho : o.op = .store t p x)
    (HO : Kd.R ceK 58 W base ok (.slice (some ⟨g, 0, none⟩) n cap) xs) (h0 : 0 ≤ i) (hi : i < n) (haddr : a.eval p = .pointer (some ⟨g, q, none⟩)) (hq : q = i.toNat * 5 + j) (hx : a.eval x = u) (hu : u.cells.toList = seg) (ht : (P.info? t).map (·.size) = some seg.length) (hone : ∀ y ∈ seg, y.oneCell' = true) (hj : j + seg.length ≤ 5)
    (hx' : (ceC (xs.getD i.toNat ceZ)).take j ++ seg ++ (ceC (xs.getD i.toNat ceZ)).drop (j + seg.length) = ceC x')
    (h : ∀ w1, Kd.R ceK 58 w1 base ok (.slice (some ⟨g, 0, none⟩) n cap) (xs.set i.toNat x') → W.grownBy w1 (some g) → K a w1) : if Region.wanted o (yielded ops a.tmps) = true then Oper.wp P o a W K Q else K (a.put none undef) W :=
  st_row ceK hw hN t p x ho i j x' (okp := fun _ => False) haddr hq hx hu ht hone HO h0 hi rfl (ce_at HO i h0 hi) hj (by rw [hx']; exact k58_mkM _ _ _ _) (fun _ hk => hk.elim) h
end
def ceT.T0 : Bool × List (List Nat × List Nat) := (true, [([], []), ([], []), ([0, 1], [0, 1]), ([2], [2]), ([], []), ([], []), ([5], [5]), ([4, 6], [4, 6]), ([7], [7]), ([3, 0, 1, 2, 3], [3]), ([8, 9, 0, 1, 2, 3, 4, 5, 6, 7, 8, 9], [8])])
def ceT.B0 : List Nat := [0, 0, 3, 7, 0, 0, 32, 112, 240, 15, 1023]
theorem ceT.tab0 : rtab .any (opsOf Try.f80 0) = ceT.T0 := by kernel_rfl
theorem ceT.bits0 : waitsOk ceT.T0.2 ceT.B0 = true := by kernel_rfl
def ceT.T2 : Bool × List (List Nat × List Nat) := (true, [([], []), ([], []), ([1], [1]), ([], []), ([], []), ([4], [4]), ([3, 5], [3, 5]), ([6], [6]), ([], []), ([], []), ([9], [9]), ([8, 10], [8, 10]), ([11], [11]), ([12], [12]), ([7, 13], [7, 13]), ([0, 2, 0, 1, 2, 3, 4, 5, 6, 7, 8, 9, 10, 11, 12, 13, 14], [0, 2]), ([15, 14, 14, 0, 1, 2, 3, 4, 5, 6, 7, 8, 9, 10, 11, 12, 13, 14], [14, 15])])
def ceT.B2 : List Nat := [0, 0, 2, 0, 0, 16, 56, 120, 0, 0, 512, 1792, 3840, 7936, 16376, 32767, 65535]
theorem ceT.tab2 : rtab .any (opsOf Try.f80 2) = ceT.T2 := by kernel_rfl
theorem ceT.bits2 : waitsOk ceT.T2.2 ceT.B2 = true := by kernel_rfl
def ceT.T3 : Bool × List (List Nat × List Nat) := (true, [([], []), ([], []), ([1], [1]), ([], []), ([3], [3]), ([], []), ([5], [5]), ([4, 6], [4, 6]), ([], []), ([], []), ([], []), ([10], [10]), ([9, 11], [9, 11]), ([12], [12]), ([13], [13]), ([], []), ([15], [15]), ([14, 16], [14, 16]), ([], []), ([18], [18]), ([17, 19], [17, 19]), ([7, 8, 20], [7, 8, 20]), ([0, 2, 0, 1, 2, 3, 4, 5, 6, 7, 8, 9, 10, 11, 12, 13, 14, 15, 16, 17, 18, 19, 20, 21], [0, 2]), ([22, 21, 0, 1, 2, 3, 4, 5, 6, 7, 8, 9, 10, 11, 12, 13, 14, 15, 16, 17, 18, 19, 20, 21], [21, 22])])
def ceT.B3 : List Nat := [0, 0, 2, 0, 8, 0, 32, 120, 0, 0, 0, 1024, 3584, 7680, 15872, 0, 32768, 130560, 0, 262144, 1048064, 2097144, 4194303, 8388607]
theorem ceT.tab3 : rtab .any (opsOf Try.f80 3) = ceT.T3 := by kernel_rfl
theorem ceT.bits3 : waitsOk ceT.T3.2 ceT.B3 = true := by kernel_rfl
def ceT.T4 : Bool × List (List Nat × List Nat) := (true, [([], []), ([], []), ([], []), ([], []), ([], []), ([], []), ([4, 5], [4, 5]), ([6], [6]), ([7], [7]), ([8], [8]), ([], []), ([], []), ([10, 11], [10, 11]), ([12], [12]), ([13], [13]), ([], []), ([15], [15]), ([14, 16], [14, 16]), ([0, 1, 0, 1, 4, 5, 6, 7, 8, 9, 14], [0, 1]), ([18, 0, 1, 4, 5, 6, 7, 8, 9, 14], [18]), ([19, 9, 0, 1, 4, 5, 6, 7, 8, 9, 14], [9, 19]), ([2, 3, 0, 1, 2, 3, 4, 5, 6, 7, 8, 9, 10, 11, 12, 13, 14, 15, 16, 17, 18, 19, 20], [2, 3]), ([21, 0, 1, 2, 3, 4, 5, 6, 7, 8, 9, 10, 11, 12, 13, 14, 15, 16, 17, 18, 19, 20], [21]), ([22, 17, 20, 0, 1, 2, 3, 4, 5, 6, 7, 8, 9, 10, 11, 12, 13, 14, 15, 16, 17, 18, 19, 20], [17, 22])])
def ceT.B4 : List Nat := [0, 0, 0, 0, 0, 0, 48, 112, 240, 496, 0, 0, 3072, 7168, 15360, 0, 32768, 130048, 32755, 294899, 819187, 2097151, 4194303, 8388607]
theorem ceT.tab4 : rtab .any (opsOf Try.f80 4) = ceT.T4 := by kernel_rfl
theorem ceT.bits4 : waitsOk ceT.T4.2 ceT.B4 = true := by kernel_rfl
def ceT.T5 : Bool × List (List Nat × List Nat) := (true, [([], []), ([], []), ([1], [1]), ([], []), ([], []), ([4], [4]), ([], []), ([], []), ([7], [7]), ([6, 8], [6, 8]), ([9], [9]), ([10], [10]), ([11], [11]), ([], []), ([], []), ([14], [14]), ([13, 15], [13, 15]), ([16], [16]), ([17], [17]), ([], []), ([19], [19]), ([18, 20], [18, 20]), ([0, 2, 0, 1, 2, 6, 7, 8, 9, 10, 11, 12, 18], [0, 2]), ([22, 0, 1, 2, 6, 7, 8, 9, 10, 11, 12, 18], [22]), ([23, 12, 0, 1, 2, 6, 7, 8, 9, 10, 11, 12, 18], [12, 23]), ([3, 5, 0, 1, 2, 3, 4, 5, 6, 7, 8, 9, 10, 11, 12, 13, 14, 15, 16, 17, 18, 19, 20, 21, 22, 23, 24], [3, 5]), ([25, 0, 1, 2, 3, 4, 5, 6, 7, 8, 9, 10, 11, 12, 13, 14, 15, 16, 17, 18, 19, 20, 21, 22, 23, 24], [25]), ([26, 21, 24, 0, 1, 2, 3, 4, 5, 6, 7, 8, 9, 10, 11, 12, 13, 14, 15, 16, 17, 18, 19, 20, 21, 22, 23, 24], [21, 26])])
def ceT.B5 : List Nat := [0, 0, 2, 0, 0, 16, 0, 0, 128, 448, 960, 1984, 4032, 0, 0, 16384, 57344, 122880, 253952, 0, 524288, 2088960, 524231, 4718535, 13107143, 33554431, 67108863, 134217727]
theorem ceT.tab5 : rtab .any (opsOf Try.f80 5) = ceT.T5 := by kernel_rfl
theorem ceT.bits5 : waitsOk ceT.T5.2 ceT.B5 = true := by kernel_rfl
set_option maxHeartbeats 8000000 in
set_option maxRecDepth 100000 in
theorem ceC.asks (gK gN gO gn go m cn co : Nat) (r : List CE × List (List CE)) (l1 : List Int) (W0 : World) (hord : go < gO ∧ gO < gn ∧ gn < gN ∧ gN < gK) (hbase : W0.heap.size ≤ go) (hl : l1.length < 1000000) : runC.Asks (.pointer (some ⟨gK, 0, none⟩)) (.pointer (some ⟨gN, 0, none⟩)) (.pointer (some ⟨gO, 0, none⟩)) l1 W0 (ceInv gK gN gO gn go m cn co W0.heap.size r l1) := by
  intro g c W x i j hj h0 h1 h2 h3 h4 h5 h6 hI hR hB
  obtain ⟨hgv, hx64, hm, hi, now, out, hK, hN, hO, hHN, hHO, hlen, hr⟩ := hI
  obtain ⟨p, hp⟩ : ∃ z : Int, rd l1 i = z := ⟨_, rfl⟩
  obtain ⟨a, ha⟩ : ∃ z : Int, rd x p = z := ⟨_, rfl⟩
  obtain ⟨b, hb⟩ : ∃ z : Int, rd x j = z := ⟨_, rfl⟩
  obtain ⟨q, hq⟩ : ∃ z : Int, wrap64 (p + 2) = z := ⟨_, rfl⟩
  rw [hp] at hj h2 h3 h6 ⊢
  rw [ha, hb] at h6 ⊢
  have hxl : (x.length : Int) ≤ 9223372036854775807 := by have := (Kd.R_reads' hR).2.2.2.1; omega
  have hgK : gK < g := hgv g rfl
  have hmem : ∀ k : Int, 0 ≤ k → k < (x.length : Int) → 0 ≤ rd x k := fun k k0 k1 => by
    have hkl : k.toNat < x.length := by omega
    have : rd x k = x[k.toNat] := by simp [rd, List.getD_eq_getElem?_getD, hkl]
    rw [this]; exact hx64 _ (List.getElem_mem hkl)
  have ha0 : 0 ≤ a := by rw [← ha]; exact hmem p h2 h3
  have hb0 : 0 ≤ b := by rw [← hb]; exact hmem j h4 h5
  have hjp : j = p + 1 := by rw [← hj]; unfold wrap64; omega
  have hqp : q = p + 2 := by rw [← hq]; unfold wrap64; omega
  have hq5 : q < (m : Int) := by omega
  have hj5 : j < (m : Int) := by omega
  have hp5 : p < (m : Int) := by omega
  have hq0 : 0 ≤ q := by omega
  have HJ := Aside0.mk hj
  have HQ := Aside0.mk hq
  have hjw : IntKind.i64.wrap (p + 1) = j := (i64_w _).trans hj
  have hqw : IntKind.i64.wrap (p + 2) = q := (i64_w _).trans hq
  obtain ⟨ad1, e1, hx1⟩ := Kd.at_int (Kd.R_reads' hR).2.2 p h2 h3
  cases e1
  obtain ⟨ad2, e2, hx2⟩ := Kd.at_int (Kd.R_reads' hR).2.2 j h4 h5
  cases e2
  simp only [add_plain, ha, hb] at hx1 hx2
  have HX := Aside0.mk (And.intro hx64 (And.intro hm (And.intro hi (And.intro h0 (And.intro h1 (And.intro hlen hl))))))
  have HORD := Aside0.mk (And.intro hord (And.intro hbase hgK))
  have HPQ := Aside0.mk (And.intro hjp hqp)
  have HRR := Aside0.mk hr
  have HAB := Aside0.mk (And.intro hp (And.intro ha hb))
  have BK := Aside0.mk hK
  have BN := Aside0.mk hN
  have BO := Aside0.mk hO
  have HN := Aside0.mk hHN
  have HO := Aside0.mk hHO
  have HR := Aside0.mk (Kd.R_mono (Kd.R_tight rfl hR) (ok' := fun k => k = g) (fun k hk => by have : some k = some g := hk; injection this))
  have HB := Aside0.mk hB
  have p1 := eq_true h2
  have q1 := eq_true h3
  have p2 := eq_true h4
  have q2 := eq_true h5
  have q3 := eq_true hq5
  have q4 := eq_true hj5
  have q5 := eq_true hp5
  have q6 := eq_true hq0
  have a1 := eq_true ha0
  have b1 := eq_true hb0
  clear hq5 hj5 hp5 hq0 ha0 hb0 hgv hx64 hm hi hK hN hO hHN hHO hlen hr hp ha hb hq hj hxl hgK hmem hjp hqp hord hbase hl h0 h1 h2 h3 h4 h5 h6 hR hB
  go_enter Try.func80, Try.ntmps80
  go_wp2
  refine start_ (n := 11) (S := fun w' => w'.cell? ⟨g, p.toNat, none⟩ = some (.int .i64 a) ∧ w'.cell? ⟨g, j.toNat, none⟩ = some (.int .i64 b)) (ds := []) #[false, false, false, false, false, false, false, false, false, false, false] (by kernel_rfl) rfl rfl ⟨hx1, hx2⟩ (fun hHeld => ?_); refine with_tabW ceT.tab0 ceT.bits0 (fun HT_ HW_ => ?_)
  have n0_ := Aside0.mk (blk_drew BK.out)
  have n1_ := Aside0.mk (blk_drew BN.out)
  have n2_ := Aside0.mk (blk_drew BO.out)
  have n3_ := Aside0.mk (Kd.R_drew HN.out)
  have n4_ := Aside0.mk (Kd.S_drew HO.out)
  have n5_ := Aside0.mk (Kd.R_drew HR.out)
  have n6_ := Aside0.mk (below_drew1 HB.out)
  clear BK BN BO HN HO HR HB hx1 hx2
  generalize W.drew = w1 at n0_ n1_ n2_ n3_ n4_ n5_ n6_ hHeld ⊢
  have BK := n0_
  have BN := n1_
  have BO := n2_
  have HN := n3_
  have HO := n4_
  have HR := n5_
  have HB := n6_
  clear n0_ n1_ n2_ n3_ n4_ n5_ n6_
  refine pu 0 9 HT_ ?_
  refine pu 1 10 HT_ ?_
  refine pu 2 11 HT_ ?_
  refine pu 4 13 HT_ ?_
  refine pu 5 14 HT_ ?_
  refine pu 6 15 HT_ ?_
  refine pu 7 16 HT_ ?_
  refine tk 3 12 HT_ HW_ hHeld ?_
  refine tk 8 17 HT_ HW_ hHeld ?_
  refine pu 9 7 HT_ ?_
  refine pu 10 8 HT_ ?_
  refine done_ (done_of HT_.out (by kernel_rfl)) ?_
  clear HT_ HW_
  have NE := Aside0.mk (show gK ≠ gn ∧ gN ≠ gn ∧ gO ≠ gn ∧ g ≠ gn ∧ (∀ k, (k = go ∨ (gK < k ∧ some k ≠ (Value.slice (some ⟨g, 0, none⟩) x.length c).ownBlock)) → k ≠ gn) from by
    obtain ⟨⟨o1, o2, o3, o4⟩, o5, o6⟩ := HORD.out
    refine ⟨by omega, by omega, by omega, by omega, fun k hk => ?_⟩
    rcases hk with hk | ⟨hk, _⟩ <;> omega)
  have BASE := Aside0.mk (show W0.heap.size ≤ gn from by obtain ⟨⟨o1, o2, o3, o4⟩, o5, o6⟩ := HORD.out; omega)
  have hcN := bc BN 0
  have hcK := bc BK 0
  have j0 := of_eq_true p2
  have j1 := of_eq_true q4
  go_wp2_with (first | ((with_reducible refine gate_store (t := 3) (p := 23) rfl ?_); refine ce_stL (seg := [.int .i64 i]) j 3 (ceMark (now.getD j.toNat ceZ) i) rfl rfl 3 (.tmp 23) (.tmp 21) rfl HN.out j0 j1 rfl rfl rfl rfl (by kernel_rfl) (by simp [Value.oneCell']) (Nat.le_of_ble_eq_true rfl) rfl ?_; intro w3 hn hg; have NN := Aside0.mk hn; clear hn))
  (have n0_ := Aside0.mk (blk_grown BK.out hg (fun h_ => NE.out.1 (Option.some.inj h_))); have n1_ := Aside0.mk (blk_grown BN.out hg (fun h_ => NE.out.2.1 (Option.some.inj h_))); have n2_ := Aside0.mk (blk_grown BO.out hg (fun h_ => NE.out.2.2.1 (Option.some.inj h_))); have n4_ := Aside0.mk (Kd.S_grown HO.out hg (fun k hk h_ => NE.out.2.2.2.2 k hk (Option.some.inj h_))); have n5_ := Aside0.mk (Kd.R_grown HR.out hg (fun k hk h_ => NE.out.2.2.2.1 (hk.symm.trans (Option.some.inj h_)))); have n6_ := Aside0.mk (HB.out.grown hg HB.out.size (fun k hk => by have := BASE.out; injection hk with hk; omega)); clear BK BN BO HO HR HB hg; have BK := n0_; have BN := n1_; have BO := n2_; have HO := n4_; have HR := n5_; have HB := n6_; clear n0_ n1_ n2_ n4_ n5_ n6_)
  obtain ⟨N1, hN1⟩ : ∃ z : List CE, z = ceSetN now j (ceMark · i) := ⟨_, rfl⟩
  have HN := Aside0.mk (show Kd.R ceK 58 w3 W0.heap.size (fun k => k = gn) (.slice (some ⟨gn, 0, none⟩) m cn) N1 by rw [hN1]; exact NN.out)
  have EN1 := Aside0.mk hN1
  clear NN hN1 hcN hcK
  obtain ⟨c1, hc1⟩ : ∃ z : CE, N1.getD j.toNat ceZ = z := ⟨_, rfl⟩
  obtain ⟨oki, cs, hcl, ⟨vr, rfl, hRr⟩, hcc, hoki, hH⟩ := Kd.S_lend HO.out [] j j0 j1
  obtain ⟨row, hrow⟩ : ∃ z : List CE, out.getD j.toNat [] = z := ⟨_, rfl⟩
  rw [hrow] at hRr
  obtain ⟨Ar, cr, er⟩ := Kd.R_slice hRr
  subst er
  have hc0 := hcc 0 _ rfl
  simp only [show (Kd.slice 58 ceK).sz = 1 from rfl, Nat.mul_one, Nat.add_zero] at hc0
  have hk := ce_at HN.out j j0 j1
  rw [hc1] at hk
  have hk0 := hk 0 _ rfl
  have hk1 := hk 1 _ rfl
  have hk2 := hk 2 _ rfl
  have hk3 := hk 3 _ rfl
  have hk4 := hk 4 _ rfl
  simp only [Nat.add_zero] at hk0
  have hnv := bc BN 0
  have hov := bc BO 0
  have HRr := Aside0.mk hRr
  have HH := Aside0.mk (Kd.H_widen hH)
  have HOKI := Aside0.mk hoki
  have HROW := Aside0.mk hrow
  have HC1 := Aside0.mk hc1
  clear hcl hRr hcc hoki hH hrow hk hc1
  refine start_ (n := 17) (S := fun w' => w'.cell? ⟨gO, 0, none⟩ = some (.slice (some ⟨go, 0, none⟩) m co) ∧ w'.cell? ⟨gN, 0, none⟩ = some (.slice (some ⟨gn, 0, none⟩) m cn) ∧ w'.cell? ⟨go, j.toNat, none⟩ = some (.slice Ar row.length cr) ∧ w'.cell? ⟨gn, j.toNat * 5, none⟩ = some (.int .i64 c1.f0) ∧ w'.cell? ⟨gn, j.toNat * 5 + 1, none⟩ = some (.int .i64 c1.f1) ∧ w'.cell? ⟨gn, j.toNat * 5 + 2, none⟩ = some (.int .i64 c1.f2) ∧ w'.cell? ⟨gn, j.toNat * 5 + 3, none⟩ = some (.int .i64 c1.f3) ∧ w'.cell? ⟨gn, j.toNat * 5 + 4, none⟩ = some (.int .i64 c1.f4)) (ds := [16]) #[false, false, false, false, false, false, false, false, false, false, false, false, false, false, false, false, false] (by kernel_rfl) rfl rfl ⟨hov, hnv, hc0, hk0, hk1, hk2, hk3, hk4⟩ (fun hHeld => ?_); refine with_tabW ceT.tab2 ceT.bits2 (fun HT_ HW_ => ?_)
  have n0_ := Aside0.mk (blk_drew BK.out)
  have n1_ := Aside0.mk (blk_drew BN.out)
  have n2_ := Aside0.mk (blk_drew BO.out)
  have n3_ := Aside0.mk (Kd.R_drew HN.out)
  have n4_ := Aside0.mk (Kd.H_drew HH.out)
  have n5_ := Aside0.mk (Kd.R_drew HR.out)
  have n6_ := Aside0.mk (below_drew1 HB.out)
  have n7_ := Aside0.mk (Kd.R_drew HRr.out)
  clear BK BN BO HN HO HH HR HB HRr hov hnv hc0 hk0 hk1 hk2 hk3 hk4
  rw [show w3.heap.size = w3.drew.heap.size from rfl] at n4_
  generalize w3.drew = w4 at n0_ n1_ n2_ n3_ n4_ n5_ n6_ n7_ hHeld ⊢
  have BK := n0_
  have BN := n1_
  have BO := n2_
  have HN := n3_
  have HH := n4_
  have HR := n5_
  have HB := n6_
  have HRr := n7_
  clear n0_ n1_ n2_ n3_ n4_ n5_ n6_ n7_
  refine pu 1 25 HT_ ?_
  refine pu 2 26 HT_ ?_
  refine pu 4 28 HT_ ?_
  refine pu 5 29 HT_ ?_
  refine pu 9 33 HT_ ?_
  refine pu 10 34 HT_ ?_
  refine tk 0 24 HT_ HW_ hHeld ?_
  refine tk 3 27 HT_ HW_ hHeld ?_
  refine pu 6 30 HT_ ?_
  refine tk 7 31 HT_ HW_ hHeld ?_
  refine tk 8 32 HT_ HW_ hHeld ?_
  refine pu 11 35 HT_ ?_
  refine tk 12 36 HT_ HW_ hHeld ?_
  refine one_ (i := 13) (N := some 37) #[true, true, true, true, true, true, true, true, true, true, true, true, true, true, false, false, false] rfl rfl (one_of HT_.out (by kernel_rfl)) (by decide) (fun K hK => ?_)
  refine value_ (w1 := ?_) (v := ?_) (by rfl) rfl ?_ ?_
  rotate_left 2
  · go_simp
    constructor
    · rfl
    · rfl
  refine hK.out _ _ (by obtain ⟨s0, s1, s2, s3, s4, s5, s6, s7⟩ := hHeld; exact ⟨cell_alloc s0 _, cell_alloc s1 _, cell_alloc s2 _, cell_alloc s3 _, cell_alloc s4 _, cell_alloc s5 _, cell_alloc s6 _, cell_alloc s7 _⟩) (fun _ => ?_)
  clear hK K
  refine norm_ (a' := ?_) ?_ ?_
  rotate_left
  · show Act.put _ (some 37) _ = _
    simp only [Act.put, List.setIfInBounds_toArray, List.set_cons_zero, List.set_cons_succ, i64_w, i32_w]
    rfl
  have HROWB := Aside0.mk (show ∀ k, (Value.slice Ar row.length cr).ownBlock = some k → gK < k ∧ k ≠ g from fun k hk => by
    obtain ⟨h1, h2⟩ := HOKI.out k (HRr.out.1 k hk)
    rcases h1 with h1 | ⟨h1, h3⟩
    · exact absurd h1 h2
    · exact ⟨h1, fun he => h3 (by rw [he]; rfl)⟩)
  have HRL := Aside0.mk (show row.length < 1000000 from by
    obtain ⟨_, _, _, hx4, hx5, hx6, hx7⟩ := HX.out
    have h1 : (row.length : Int) ≤ i := by rw [← HROW.out]; exact getD_of (P := fun y : List CE => (y.length : Int) ≤ i) hx6 (by simpa using hx4) _
    omega)
  have HLT := Aside0.mk (And.intro (blk_lt BK.out) (Kd.R_lt HR.out g rfl))
  refine one_ (i := 14) (N := some 38) #[true, true, true, true, true, true, true, true, true, true, true, true, true, true, true, false, false] rfl rfl (one_of HT_.out (by kernel_rfl)) (by decide) (fun K hK => ?_)
  refine Kd.R_append_step ceK (w0 := W0) W0.heap.size (by rfl) (.tmp 31) (.tmp 37) 56 58 (.agg #[.int .i64 0, .int .i64 0, .int .i64 0, .int .i64 0, .int .i64 0]) 40 rfl Try.underlying56 (by kernel_rfl) rfl (by decide) (by omega) (.slice Ar row.length cr) row c1 (ceC c1) (fun k => oki k ∨ (k = go ∨ (gK < k ∧ some k ≠ (Value.slice (some ⟨g, 0, none⟩) x.length c).ownBlock)) ∧ w4.heap.size ≤ k) (fun _ => False) rfl rfl (k58_mkM _ _ _ _) (fun _ h_ => h_.elim) ?aF (Kd.R_mono HRr.out (fun k hk => .inl hk)) HB.out HB.out.size ?aL ?_
  (case aF => exact (fun k hk => .inr ⟨.inr ⟨by have := HLT.out.1; omega, fun he => by have h_ : k = g := Option.some.inj he; have := HLT.out.2; omega⟩, hk⟩))
  (case aL => have := HRL.out; omega)
  intro v5 w5 hr5 hb5 hg5 hat5
  obtain ⟨A5, c5, e5⟩ := Kd.R_slice hr5
  subst e5
  have ne5 : ∀ bb : Nat, bb ≤ gK → some bb ≠ (Value.slice Ar row.length cr).ownBlock := fun bb hb_ he => by have := (HROWB.out bb he.symm).1; omega
  have ord := HORD.out
  have HELD2 : w5.cell? ⟨gO, 0, none⟩ = some (.slice (some ⟨go, 0, none⟩) m co) ∧ w5.cell? ⟨gN, 0, none⟩ = some (.slice (some ⟨gn, 0, none⟩) m cn) ∧ w5.cell? ⟨go, j.toNat, none⟩ = some (.slice Ar row.length cr) ∧ w5.cell? ⟨gn, j.toNat * 5, none⟩ = some (.int .i64 c1.f0) ∧ w5.cell? ⟨gn, j.toNat * 5 + 1, none⟩ = some (.int .i64 c1.f1) ∧ w5.cell? ⟨gn, j.toNat * 5 + 2, none⟩ = some (.int .i64 c1.f2) ∧ w5.cell? ⟨gn, j.toNat * 5 + 3, none⟩ = some (.int .i64 c1.f3) ∧ w5.cell? ⟨gn, j.toNat * 5 + 4, none⟩ = some (.int .i64 c1.f4) := by
    obtain ⟨s0, s1, s2, s3, s4, s5, s6, s7⟩ := hHeld
    exact ⟨cell_grown s0 hg5 (ne5 gO (by omega)), cell_grown s1 hg5 (ne5 gN (by omega)), cell_grown s2 hg5 (ne5 go (by omega)), cell_grown s3 hg5 (ne5 gn (by omega)), cell_grown s4 hg5 (ne5 gn (by omega)), cell_grown s5 hg5 (ne5 gn (by omega)), cell_grown s6 hg5 (ne5 gn (by omega)), cell_grown s7 hg5 (ne5 gn (by omega))⟩
  have n0_ := Aside0.mk (blk_grown BK.out hg5 (ne5 gK (Nat.le_refl _)))
  have n1_ := Aside0.mk (blk_grown BN.out hg5 (ne5 gN (by omega)))
  have n2_ := Aside0.mk (blk_grown BO.out hg5 (ne5 gO (by omega)))
  have n3_ := Aside0.mk (Kd.R_grown HN.out hg5 (fun k hk => by subst hk; exact ne5 k (by omega)))
  have n4_ := Aside0.mk (Kd.H_grown HH.out hg5 (fun k hk => .inl (HRr.out.1 k hk)))
  have n5_ := Aside0.mk (Kd.R_grown HR.out hg5 (fun k hk he => (HROWB.out k he.symm).2 hk))
  have n6_ := Aside0.mk hb5
  have n7_ := Aside0.mk hr5
  clear BK BN BO HN HH HR HB HRr hr5 hb5 hg5 hat5 ord ne5 hHeld
  have BK := n0_
  have BN := n1_
  have BO := n2_
  have HN := n3_
  have HH := n4_
  have HR := n5_
  have HB := n6_
  have HR5 := n7_
  clear n0_ n1_ n2_ n3_ n4_ n5_ n6_ n7_
  refine hK.out _ _ HELD2 (fun hHeld => ?_)
  clear hK K HELD2
  refine norm_ (a' := ?_) ?_ ?_
  rotate_left
  · show Act.put _ (some 38) _ = _
    simp only [Act.put, List.setIfInBounds_toArray, List.set_cons_zero, List.set_cons_succ, i64_w, i32_w]
    rfl
  refine pu 15 39 HT_ ?_
  refine last_ (i := 16) (N := none) #[true, true, true, true, true, true, true, true, true, true, true, true, true, true, true, true, true] rfl rfl (one_of HT_.out (by kernel_rfl)) (by decide) (fun K hK => ?_)
  refine st_lent (Kd.slice 58 ceK) (by rfl) rfl 56 (.tmp 39) (.tmp 38) rfl j 0 (row ++ [c1]) (seg := [.slice A5 (row ++ [c1]).length c5]) (okp := fun k => oki k ∨ (k = go ∨ (gK < k ∧ some k ≠ (Value.slice (some ⟨g, 0, none⟩) x.length c).ownBlock)) ∧ w4.heap.size ≤ k) rfl (by show _ = j.toNat * 1 + 0; omega) rfl rfl (by kernel_rfl) (by simp [Value.oneCell']) HH.out j0 j1 (Nat.le_refl _) ⟨_, rfl, HR5.out⟩ (fun _ hk => hk) ?gO ?_
  (case gO =>
    intro k hk
    have := HLT.out.1
    have ord := HORD.out
    rcases hk with hk | ⟨hk, h2⟩
    · exact (HOKI.out k hk).2
    · omega)
  intro w6 hs hg
  have ord := HORD.out
  have n0_ := Aside0.mk (blk_grown BK.out hg (fun h_ => by have := Option.some.inj h_; omega))
  have n1_ := Aside0.mk (blk_grown BN.out hg (fun h_ => by have := Option.some.inj h_; omega))
  have n2_ := Aside0.mk (blk_grown BO.out hg (fun h_ => by have := Option.some.inj h_; omega))
  have n3_ := Aside0.mk (Kd.R_grown HN.out hg (fun k hk h_ => by have := Option.some.inj h_; omega))
  have n5_ := Aside0.mk (Kd.R_grown HR.out hg (fun k hk h_ => by have := Option.some.inj h_; omega))
  have n6_ := Aside0.mk (HB.out.grown hg HB.out.size (fun k hk => by injection hk with hk; omega))
  have n4_ := Aside0.mk hs
  clear BK BN BO HN HH HR HB HR5 hs hg ord hHeld
  have BK := n0_
  have BN := n1_
  have BO := n2_
  have HN := n3_
  have HO := n4_
  have HR := n5_
  have HB := n6_
  clear n0_ n1_ n2_ n3_ n4_ n5_ n6_
  refine hK.out _ _ ?_
  clear hK K
  refine done_ (done_of HT_.out (by kernel_rfl)) ?_
  clear HT_ HW_
  go_wp2
  have hnv := bc BN 0
  have hkv := bc BK 0
  have hk4 : w6.cell? ⟨gn, j.toNat * 5 + 4, none⟩ = some (.int .i64 c1.f4) := by have := ce_at HN.out j j0 j1 4; rw [HC1.out] at this; exact this _ rfl
  refine start_ (n := 24) (S := fun w' => w'.cell? ⟨gN, 0, none⟩ = some (.slice (some ⟨gn, 0, none⟩) m cn) ∧ w'.cell? ⟨gK, 0, none⟩ = some (.int .i64 i) ∧ w'.cell? ⟨gn, j.toNat * 5 + 4, none⟩ = some (.int .i64 c1.f4)) (ds := [23]) #[false, false, false, false, false, false, false, false, false, false, false, false, false, false, false, false, false, false, false, false, false, false, false, false] (by kernel_rfl) rfl rfl ⟨hnv, hkv, hk4⟩ (fun hHeld => ?_); refine with_tabW ceT.tab3 ceT.bits3 (fun HT_ HW_ => ?_)
  have n0_ := Aside0.mk (blk_drew BK.out)
  have n1_ := Aside0.mk (blk_drew BN.out)
  have n2_ := Aside0.mk (blk_drew BO.out)
  have n3_ := Aside0.mk (Kd.R_drew HN.out)
  have n4_ := Aside0.mk (Kd.S_drew HO.out)
  have n5_ := Aside0.mk (Kd.R_drew HR.out)
  have n6_ := Aside0.mk (below_drew1 HB.out)
  clear BK BN BO HN HO HR HB hnv hkv hk4
  generalize w6.drew = w7 at n0_ n1_ n2_ n3_ n4_ n5_ n6_ hHeld ⊢
  have BK := n0_
  have BN := n1_
  have BO := n2_
  have HN := n3_
  have HO := n4_
  have HR := n5_
  have HB := n6_
  clear n0_ n1_ n2_ n3_ n4_ n5_ n6_
  refine pu 1 41 HT_ ?_
  refine pu 2 42 HT_ ?_
  refine pu 3 43 HT_ ?_
  refine pu 4 44 HT_ ?_
  refine pu 5 45 HT_ ?_
  refine pu 6 46 HT_ ?_
  refine pu 7 47 HT_ ?_
  refine pu 10 50 HT_ ?_
  refine pu 11 51 HT_ ?_
  refine pu 15 55 HT_ ?_
  refine pu 16 56 HT_ ?_
  refine pu 18 58 HT_ ?_
  refine pu 19 59 HT_ ?_
  refine tk 0 40 HT_ HW_ hHeld ?_
  refine tk 8 48 HT_ HW_ hHeld ?_
  refine tk 9 49 HT_ HW_ hHeld ?_
  refine pu 12 52 HT_ ?_
  refine pu 13 53 HT_ ?_
  refine tk 14 54 HT_ HW_ hHeld ?_
  refine pu 17 57 HT_ ?_
  refine pu 20 60 HT_ ?_
  refine pu 21 61 HT_ ?_
  refine pu 22 62 HT_ ?_
  refine last_ (i := 23) (N := none) #[true, true, true, true, true, true, true, true, true, true, true, true, true, true, true, true, true, true, true, true, true, true, true, true] rfl rfl (one_of HT_.out (by kernel_rfl)) (by decide) (fun K hK => ?_)
  refine ce_stD (seg := ceC (ceNew c1 i a b)) j 0 (ceNew c1 i a b) (by rfl) rfl 58 (.tmp 62) (.tmp 61) rfl HN.out j0 j1 rfl rfl rfl rfl (show _ = some 5 from by kernel_rfl) (ceC_one _) (Nat.le_refl 5) rfl ?_
  intro w8 hn hg
  (have n0_ := Aside0.mk (blk_grown BK.out hg (fun h_ => NE.out.1 (Option.some.inj h_))); have n1_ := Aside0.mk (blk_grown BN.out hg (fun h_ => NE.out.2.1 (Option.some.inj h_))); have n2_ := Aside0.mk (blk_grown BO.out hg (fun h_ => NE.out.2.2.1 (Option.some.inj h_))); have n4_ := Aside0.mk (Kd.S_grown HO.out hg (fun k hk h_ => NE.out.2.2.2.2 k hk (Option.some.inj h_))); have n5_ := Aside0.mk (Kd.R_grown HR.out hg (fun k hk h_ => NE.out.2.2.2.1 (hk.symm.trans (Option.some.inj h_)))); have n6_ := Aside0.mk (HB.out.grown hg HB.out.size (fun k hk => by have := BASE.out; injection hk with hk; omega)); clear BK BN BO HO HR HB hg; have BK := n0_; have BN := n1_; have BO := n2_; have HO := n4_; have HR := n5_; have HB := n6_; clear n0_ n1_ n2_ n4_ n5_ n6_)
  obtain ⟨N2, hN2⟩ : ∃ z : List CE, z = ceSetN N1 j (ceNew · i a b) := ⟨_, rfl⟩
  have HN := Aside0.mk (show Kd.R ceK 58 w8 W0.heap.size (fun k => k = gn) (.slice (some ⟨gn, 0, none⟩) m cn) N2 by rw [hN2]; unfold ceSetN; rw [HC1.out]; exact hn)
  have EN2 := Aside0.mk hN2
  clear hn hN2 hHeld
  refine hK.out _ _ ?_
  clear hK K
  refine done_ (done_of HT_.out (by kernel_rfl)) ?_
  have i0 := of_eq_true p1
  have i1 := of_eq_true q5
  have k0 := of_eq_true q6
  have k1 := of_eq_true q3
  clear HT_ HW_
  go_wp2
  obtain ⟨c2, hc2⟩ : ∃ z : CE, N2.getD p.toNat ceZ = z := ⟨_, rfl⟩
  have HC2 := Aside0.mk hc2
  clear hc2
  have hnv := bc BN 0
  have hk0 : w8.cell? ⟨gn, p.toNat * 5, none⟩ = some (.int .i64 c2.f0) := by have := ce_at HN.out p i0 i1 0; rw [HC2.out] at this; exact this _ rfl
  have hk1 : w8.cell? ⟨gn, p.toNat * 5 + 1, none⟩ = some (.int .i64 c2.f1) := by have := ce_at HN.out p i0 i1 1; rw [HC2.out] at this; exact this _ rfl
  refine start_ (n := 24) (S := fun w' => w'.cell? ⟨gN, 0, none⟩ = some (.slice (some ⟨gn, 0, none⟩) m cn) ∧ w'.cell? ⟨gn, p.toNat * 5 + 1, none⟩ = some (.int .i64 c2.f1)) (ds := [23]) #[false, false, false, false, false, false, false, false, false, false, false, false, false, false, false, false, false, false, false, false, false, false, false, false] (by kernel_rfl) rfl rfl ⟨hnv, hk1⟩ (fun hHeld => ?_); refine with_tabW ceT.tab4 ceT.bits4 (fun HT_ HW_ => ?_)
  have HK0 := Aside0.mk (show w8.drew.cell? ⟨gn, p.toNat * 5, none⟩ = some (.int .i64 c2.f0) from hk0)
  have n0_ := Aside0.mk (blk_drew BK.out)
  have n1_ := Aside0.mk (blk_drew BN.out)
  have n2_ := Aside0.mk (blk_drew BO.out)
  have n3_ := Aside0.mk (Kd.R_drew HN.out)
  have n4_ := Aside0.mk (Kd.S_drew HO.out)
  have n5_ := Aside0.mk (Kd.R_drew HR.out)
  have n6_ := Aside0.mk (below_drew1 HB.out)
  clear BK BN BO HN HO HR HB hnv hk0 hk1
  generalize w8.drew = w9 at n0_ n1_ n2_ n3_ n4_ n5_ n6_ HK0 hHeld ⊢
  have BK := n0_
  have BN := n1_
  have BO := n2_
  have HN := n3_
  have HO := n4_
  have HR := n5_
  have HB := n6_
  clear n0_ n1_ n2_ n3_ n4_ n5_ n6_
  refine pu 1 64 HT_ ?_
  refine pu 3 66 HT_ ?_
  refine pu 5 68 HT_ ?_
  refine pu 11 74 HT_ ?_
  refine pu 15 78 HT_ ?_
  refine pu 16 79 HT_ ?_
  refine tk 0 63 HT_ HW_ hHeld ?_
  refine tk 2 65 HT_ HW_ hHeld ?_
  refine tk 4 67 HT_ HW_ hHeld ?_
  refine pu 6 69 HT_ ?_
  refine pu 7 70 HT_ ?_
  refine tk 10 73 HT_ HW_ hHeld ?_
  refine pu 12 75 HT_ ?_
  refine pu 13 76 HT_ ?_
  refine tk 14 77 HT_ HW_ hHeld ?_
  refine pu 17 80 HT_ ?_
  refine one_ (i := 8) (N := some 71) #[true, true, true, true, true, true, true, true, true, false, true, true, true, true, true, true, true, true, false, false, false, false, false, false] rfl rfl (one_of HT_.out (by kernel_rfl)) (by decide) (fun K hK => ?_)
  refine value_ (w1 := w9) (v := .int .i64 c2.f0) (by rfl) rfl ?_ ?_
  · have hk0 := HK0.out
    go_simp
  refine hK.out _ _ hHeld (fun hHeld => ?_)
  clear hK K HK0
  refine norm_ (a' := ?_) ?_ ?_
  rotate_left
  · show Act.put _ (some 71) _ = _
    simp only [Act.put, List.setIfInBounds_toArray, List.set_cons_zero, List.set_cons_succ, i64_w, i32_w]
    rfl
  refine pu 9 72 HT_ ?_
  refine pu 18 81 HT_ ?_
  refine pu 19 82 HT_ ?_
  refine one_ (i := 20) (N := none) #[true, true, true, true, true, true, true, true, true, true, true, true, true, true, true, true, true, true, true, true, true, false, false, false] rfl rfl (one_of HT_.out (by kernel_rfl)) (by decide) (fun K hK => ?_)
  refine ce_stD (seg := [.int .i64 (wrap64 (c2.f0 + 1))]) p 0 ⟨wrap64 (c2.f0 + 1), c2.f1, c2.f2, c2.f3, c2.f4⟩ (by rfl) rfl 3 (.tmp 82) (.tmp 72) rfl HN.out i0 i1 rfl rfl rfl rfl (by kernel_rfl) (by simp [Value.oneCell']) (Nat.le_of_ble_eq_true rfl) (by rw [HC2.out]; rfl) ?_
  intro w10 hn hg
  have NN := Aside0.mk hn
  clear HN hn hHeld
  (have n0_ := Aside0.mk (blk_grown BK.out hg (fun h_ => NE.out.1 (Option.some.inj h_))); have n1_ := Aside0.mk (blk_grown BN.out hg (fun h_ => NE.out.2.1 (Option.some.inj h_))); have n2_ := Aside0.mk (blk_grown BO.out hg (fun h_ => NE.out.2.2.1 (Option.some.inj h_))); have n4_ := Aside0.mk (Kd.S_grown HO.out hg (fun k hk h_ => NE.out.2.2.2.2 k hk (Option.some.inj h_))); have n5_ := Aside0.mk (Kd.R_grown HR.out hg (fun k hk h_ => NE.out.2.2.2.1 (hk.symm.trans (Option.some.inj h_)))); have n6_ := Aside0.mk (HB.out.grown hg HB.out.size (fun k hk => by have := BASE.out; injection hk with hk; omega)); clear BK BN BO HO HR HB hg; have BK := n0_; have BN := n1_; have BO := n2_; have HO := n4_; have HR := n5_; have HB := n6_; clear n0_ n1_ n2_ n4_ n5_ n6_)
  have hg2 : (N2.set p.toNat (⟨wrap64 (c2.f0 + 1), c2.f1, c2.f2, c2.f3, c2.f4⟩ : CE)).getD p.toNat ceZ = ⟨wrap64 (c2.f0 + 1), c2.f1, c2.f2, c2.f3, c2.f4⟩ := by
    have hl := (Kd.R_reads' NN.out).1
    rw [List.length_set] at hl
    have := of_eq_true p1
    have := of_eq_true q5
    rw [List.getD_eq_getElem?_getD, List.getElem?_set_self (by omega)]; rfl
  refine hK.out _ _ ⟨bc BN 0, by have := ce_at NN.out p i0 i1 1; rw [hg2] at this; exact this _ rfl⟩ (fun hHeld => ?_)
  clear hK K
  refine pu 21 83 HT_ ?_
  refine pu 22 84 HT_ ?_
  refine last_ (i := 23) (N := none) #[true, true, true, true, true, true, true, true, true, true, true, true, true, true, true, true, true, true, true, true, true, true, true, true] rfl rfl (one_of HT_.out (by kernel_rfl)) (by decide) (fun K hK => ?_)
  refine ce_stD (seg := [.int .i64 (Go.bits .or .i64 c2.f1 (ceBit b))]) p 1 (ceAdd c2 b) (by rfl) rfl 3 (.tmp 84) (.tmp 80) rfl NN.out i0 i1 rfl rfl rfl rfl (by kernel_rfl) (by simp [Value.oneCell']) (Nat.le_of_ble_eq_true rfl) (by rw [hg2]; rfl) ?_
  intro w11 hn hg
  clear NN hg2 hHeld
  have HN := Aside0.mk (Kd.R_nil (Kd.int .i64) 0 W 0 (fun _ => True))
  (have n0_ := Aside0.mk (blk_grown BK.out hg (fun h_ => NE.out.1 (Option.some.inj h_))); have n1_ := Aside0.mk (blk_grown BN.out hg (fun h_ => NE.out.2.1 (Option.some.inj h_))); have n2_ := Aside0.mk (blk_grown BO.out hg (fun h_ => NE.out.2.2.1 (Option.some.inj h_))); have n4_ := Aside0.mk (Kd.S_grown HO.out hg (fun k hk h_ => NE.out.2.2.2.2 k hk (Option.some.inj h_))); have n5_ := Aside0.mk (Kd.R_grown HR.out hg (fun k hk h_ => NE.out.2.2.2.1 (hk.symm.trans (Option.some.inj h_)))); have n6_ := Aside0.mk (HB.out.grown hg HB.out.size (fun k hk => by have := BASE.out; injection hk with hk; omega)); clear BK BN BO HO HR HB hg; have BK := n0_; have BN := n1_; have BO := n2_; have HO := n4_; have HR := n5_; have HB := n6_; clear n0_ n1_ n2_ n4_ n5_ n6_)
  clear HN
  obtain ⟨N3, hNq⟩ : ∃ z : List CE, z = ceSetN N2 p (ceAdd · b) := ⟨_, rfl⟩
  have HN := Aside0.mk (show Kd.R ceK 58 w11 W0.heap.size (fun k => k = gn) (.slice (some ⟨gn, 0, none⟩) m cn) N3 by rw [hNq]; unfold ceSetN; rw [HC2.out]; rw [List.set_set] at hn; exact hn)
  have EN3 := Aside0.mk hNq
  clear hn hNq HC2
  refine hK.out _ _ ?_
  clear hK K
  refine done_ (done_of HT_.out (by kernel_rfl)) ?_
  clear HT_ HW_
  go_wp2
  obtain ⟨c2, hc2⟩ : ∃ z : CE, N3.getD q.toNat ceZ = z := ⟨_, rfl⟩
  have HC2 := Aside0.mk hc2
  clear hc2
  have hnv := bc BN 0
  have hk0 : w11.cell? ⟨gn, q.toNat * 5, none⟩ = some (.int .i64 c2.f0) := by have := ce_at HN.out q k0 k1 0; rw [HC2.out] at this; exact this _ rfl
  have hk1 : w11.cell? ⟨gn, q.toNat * 5 + 1, none⟩ = some (.int .i64 c2.f1) := by have := ce_at HN.out q k0 k1 1; rw [HC2.out] at this; exact this _ rfl
  refine start_ (n := 28) (S := fun w' => w'.cell? ⟨gN, 0, none⟩ = some (.slice (some ⟨gn, 0, none⟩) m cn) ∧ w'.cell? ⟨gn, q.toNat * 5 + 1, none⟩ = some (.int .i64 c2.f1)) (ds := [27]) #[false, false, false, false, false, false, false, false, false, false, false, false, false, false, false, false, false, false, false, false, false, false, false, false, false, false, false, false] (by kernel_rfl) rfl rfl ⟨hnv, hk1⟩ (fun hHeld => ?_); refine with_tabW ceT.tab5 ceT.bits5 (fun HT_ HW_ => ?_)
  have HK0 := Aside0.mk (show w11.drew.cell? ⟨gn, q.toNat * 5, none⟩ = some (.int .i64 c2.f0) from hk0)
  have n0_ := Aside0.mk (blk_drew BK.out)
  have n1_ := Aside0.mk (blk_drew BN.out)
  have n2_ := Aside0.mk (blk_drew BO.out)
  have n3_ := Aside0.mk (Kd.R_drew HN.out)
  have n4_ := Aside0.mk (Kd.S_drew HO.out)
  have n5_ := Aside0.mk (Kd.R_drew HR.out)
  have n6_ := Aside0.mk (below_drew1 HB.out)
  clear BK BN BO HN HO HR HB hnv hk0 hk1
  generalize w11.drew = w12 at n0_ n1_ n2_ n3_ n4_ n5_ n6_ HK0 hHeld ⊢
  have BK := n0_
  have BN := n1_
  have BO := n2_
  have HN := n3_
  have HO := n4_
  have HR := n5_
  have HB := n6_
  clear n0_ n1_ n2_ n3_ n4_ n5_ n6_
  refine pu 1 86 HT_ ?_
  refine pu 2 87 HT_ ?_
  refine pu 4 89 HT_ ?_
  refine pu 5 90 HT_ ?_
  refine pu 7 92 HT_ ?_
  refine pu 8 93 HT_ ?_
  refine pu 14 99 HT_ ?_
  refine pu 15 100 HT_ ?_
  refine pu 19 104 HT_ ?_
  refine pu 20 105 HT_ ?_
  refine tk 0 85 HT_ HW_ hHeld ?_
  refine tk 3 88 HT_ HW_ hHeld ?_
  refine tk 6 91 HT_ HW_ hHeld ?_
  refine pu 9 94 HT_ ?_
  refine pu 10 95 HT_ ?_
  refine tk 13 98 HT_ HW_ hHeld ?_
  refine pu 16 101 HT_ ?_
  refine pu 17 102 HT_ ?_
  refine tk 18 103 HT_ HW_ hHeld ?_
  refine pu 21 106 HT_ ?_
  refine one_ (i := 11) (N := some 96) #[true, true, true, true, true, true, true, true, true, true, true, true, false, true, true, true, true, true, true, true, true, true, false, false, false, false, false, false] rfl rfl (one_of HT_.out (by kernel_rfl)) (by decide) (fun K hK => ?_)
  refine value_ (w1 := w12) (v := .int .i64 c2.f0) (by rfl) rfl ?_ ?_
  · have hk0 := HK0.out
    go_simp
  refine hK.out _ _ hHeld (fun hHeld => ?_)
  clear hK K HK0
  refine norm_ (a' := ?_) ?_ ?_
  rotate_left
  · show Act.put _ (some 96) _ = _
    simp only [Act.put, List.setIfInBounds_toArray, List.set_cons_zero, List.set_cons_succ, i64_w, i32_w]
    rfl
  refine pu 12 97 HT_ ?_
  refine pu 22 107 HT_ ?_
  refine pu 23 108 HT_ ?_
  refine one_ (i := 24) (N := none) #[true, true, true, true, true, true, true, true, true, true, true, true, true, true, true, true, true, true, true, true, true, true, true, true, true, false, false, false] rfl rfl (one_of HT_.out (by kernel_rfl)) (by decide) (fun K hK => ?_)
  refine ce_stD (seg := [.int .i64 (wrap64 (c2.f0 + 1))]) q 0 ⟨wrap64 (c2.f0 + 1), c2.f1, c2.f2, c2.f3, c2.f4⟩ (by rfl) rfl 3 (.tmp 108) (.tmp 97) rfl HN.out k0 k1 rfl rfl rfl rfl (by kernel_rfl) (by simp [Value.oneCell']) (Nat.le_of_ble_eq_true rfl) (by rw [HC2.out]; rfl) ?_
  intro w13 hn hg
  have NN := Aside0.mk hn
  clear HN hn hHeld
  (have n0_ := Aside0.mk (blk_grown BK.out hg (fun h_ => NE.out.1 (Option.some.inj h_))); have n1_ := Aside0.mk (blk_grown BN.out hg (fun h_ => NE.out.2.1 (Option.some.inj h_))); have n2_ := Aside0.mk (blk_grown BO.out hg (fun h_ => NE.out.2.2.1 (Option.some.inj h_))); have n4_ := Aside0.mk (Kd.S_grown HO.out hg (fun k hk h_ => NE.out.2.2.2.2 k hk (Option.some.inj h_))); have n5_ := Aside0.mk (Kd.R_grown HR.out hg (fun k hk h_ => NE.out.2.2.2.1 (hk.symm.trans (Option.some.inj h_)))); have n6_ := Aside0.mk (HB.out.grown hg HB.out.size (fun k hk => by have := BASE.out; injection hk with hk; omega)); clear BK BN BO HO HR HB hg; have BK := n0_; have BN := n1_; have BO := n2_; have HO := n4_; have HR := n5_; have HB := n6_; clear n0_ n1_ n2_ n4_ n5_ n6_)
  have hg2 : (N3.set q.toNat (⟨wrap64 (c2.f0 + 1), c2.f1, c2.f2, c2.f3, c2.f4⟩ : CE)).getD q.toNat ceZ = ⟨wrap64 (c2.f0 + 1), c2.f1, c2.f2, c2.f3, c2.f4⟩ := by
    have hl := (Kd.R_reads' NN.out).1
    rw [List.length_set] at hl
    have := of_eq_true q6
    have := of_eq_true q3
    rw [List.getD_eq_getElem?_getD, List.getElem?_set_self (by omega)]; rfl
  refine hK.out _ _ ⟨bc BN 0, by have := ce_at NN.out q k0 k1 1; rw [hg2] at this; exact this _ rfl⟩ (fun hHeld => ?_)
  clear hK K
  refine pu 25 109 HT_ ?_
  refine pu 26 110 HT_ ?_
  refine last_ (i := 27) (N := none) #[true, true, true, true, true, true, true, true, true, true, true, true, true, true, true, true, true, true, true, true, true, true, true, true, true, true, true, true] rfl rfl (one_of HT_.out (by kernel_rfl)) (by decide) (fun K hK => ?_)
  refine ce_stD (seg := [.int .i64 (Go.bits .or .i64 c2.f1 (ceBit a))]) q 1 (ceAdd c2 a) (by rfl) rfl 3 (.tmp 110) (.tmp 106) rfl NN.out k0 k1 rfl rfl rfl rfl (by kernel_rfl) (by simp [Value.oneCell']) (Nat.le_of_ble_eq_true rfl) (by rw [hg2]; rfl) ?_
  intro w14 hn hg
  clear NN hg2 hHeld
  have HN := Aside0.mk (Kd.R_nil (Kd.int .i64) 0 W 0 (fun _ => True))
  (have n0_ := Aside0.mk (blk_grown BK.out hg (fun h_ => NE.out.1 (Option.some.inj h_))); have n1_ := Aside0.mk (blk_grown BN.out hg (fun h_ => NE.out.2.1 (Option.some.inj h_))); have n2_ := Aside0.mk (blk_grown BO.out hg (fun h_ => NE.out.2.2.1 (Option.some.inj h_))); have n4_ := Aside0.mk (Kd.S_grown HO.out hg (fun k hk h_ => NE.out.2.2.2.2 k hk (Option.some.inj h_))); have n5_ := Aside0.mk (Kd.R_grown HR.out hg (fun k hk h_ => NE.out.2.2.2.1 (hk.symm.trans (Option.some.inj h_)))); have n6_ := Aside0.mk (HB.out.grown hg HB.out.size (fun k hk => by have := BASE.out; injection hk with hk; omega)); clear BK BN BO HO HR HB hg; have BK := n0_; have BN := n1_; have BO := n2_; have HO := n4_; have HR := n5_; have HB := n6_; clear n0_ n1_ n2_ n4_ n5_ n6_)
  clear HN
  obtain ⟨N4, hNq⟩ : ∃ z : List CE, z = ceSetN N3 q (ceAdd · a) := ⟨_, rfl⟩
  have HN := Aside0.mk (show Kd.R ceK 58 w14 W0.heap.size (fun k => k = gn) (.slice (some ⟨gn, 0, none⟩) m cn) N4 by rw [hNq]; unfold ceSetN; rw [HC2.out]; rw [List.set_set] at hn; exact hn)
  have EN4 := Aside0.mk hNq
  clear hn hNq HC2
  refine hK.out _ _ ?_
  clear hK K
  refine done_ (done_of HT_.out (by kernel_rfl)) ?_
  clear HT_ HW_
  have hkv := bc BK 0
  have hkf := bf BK 0
  go_wp2
  first | go_end0 | ((try simp only [Exit.inBlock, Exit.then]); refine bodyPost_ret (results_none rfl _ _ _) rfl ?_)
  have ord := HORD.out
  obtain ⟨hx64, hm, hi, h0, h1, hlen, hl⟩ := HX.out
  obtain ⟨hp, ha, hb⟩ := HAB.out
  have hw : wrap64 (i + 1) = i + 1 := by unfold wrap64; omega
  obtain ⟨n, hn⟩ : ∃ n : Nat, i = (n : Int) := ⟨i.toNat, by omega⟩
  have hnl : n < l1.length := by omega
  have a0 := of_eq_true a1
  have b0 := of_eq_true b1
  refine ⟨rfl, ⟨fun k hk => ?_, ?_, ?_, by rw [hw]; omega, N4, out.set j.toNat (row ++ [c1]), blk_put BK.out 0 _ rfl, blk_far BN.out (by show gN ≠ gK; omega) _, blk_far BO.out (by show gO ≠ gK; omega) _, Kd.R_far HN.out (fun k hk => by show k ≠ gK; omega) _, Kd.S_far HO.out (fun k hk => by show k ≠ gK; rcases hk with hk | ⟨hk, _⟩ <;> omega) _, ?_, ?_⟩, Kd.R_mono (Kd.R_far HR.out (fun k hk => by show k ≠ gK; omega) _) (fun _ _ => trivial), HB.out.setCell (by show _ ≤ gK; omega) _⟩
  · have : g = k := by simpa [Value.ownBlock] using hk
    omega
  · intro y hy
    rcases List.mem_or_eq_of_mem_set hy with hy | hy
    · rcases List.mem_or_eq_of_mem_set hy with hy | hy
      · exact hx64 y hy
      · rw [hy]; exact b0
    · rw [hy]; exact a0
  · rw [List.length_set, List.length_set]; exact hm
  · intro y hy
    rw [hw]
    rcases List.mem_or_eq_of_mem_set hy with hy | hy
    · have := hlen y hy; omega
    · have h2 : (row.length : Int) ≤ i := by rw [← HROW.out]; exact getD_of (P := fun y : List CE => (y.length : Int) ≤ i) hlen (by simpa using h0) _
      rw [hy, List.length_append, List.length_singleton]; omega
  · have hE := HRR.out
    have hrd : rd l1 (n : Int) = l1[n] := by simp [rd, List.getD_eq_getElem?_getD, hnl]
    rw [hw, hn, show ((n : Int) + 1).toNat = n + 1 by omega]
    rw [hn, Int.toNat_natCast, List.drop_eq_getElem_cons hnl, ← hrd, ← hn, hp] at hE
    rw [← hE]
    simp only [ceRun]
    rw [HJ.out, HQ.out, ha, hb, hw]
    have e1 : ceSw x p = (x.set p.toNat b).set j.toNat a := by unfold ceSw; rw [HJ.out, ha, hb]
    have e2 : ceNow now i p j q a b = N4 := by unfold ceNow; rw [← EN1.out, ← EN2.out, ← EN3.out, ← EN4.out]
    have e3 : ceOut now out i j = out.set j.toNat (row ++ [c1]) := by unfold ceOut; rw [← EN1.out, HROW.out, HC1.out]
    rw [e1, e2, e3, hn]

end Go.Proofs.Ythibphndihjcaaa.P
