/- laws.FnCrossings: a call of it answers true, where the draws and all answers are as told. Conditions: what its callees compute. -/
import Derived.Test.YtmidcafamppkeaaSq
import Derived.Test.YtmidcafamppkeaaWAll2
import Derived.Test.YtmidcafamppkeaaP4
import Derived.Test.YtmidcafamppkeaaP16
import Derived.Test.YtmidcafamppkeaaP58
import Derived.Test.YtmidcafamppkeaaP48
import Derived.Test.YtmidcafamppkeaaP41
import Derived.Test.YtmidcafamppkeaaP20
import Derived.Test.YtmidcafamppkeaaP72
import Derived.Test.YtmidcafamppkeaaP75
namespace Go.Proofs.Ytmidcafamppkeaa.P
open Go.RowKit Go.Proofs.YtmidcafamppkeaaW.PrintWords Go.Proofs.YtmidcafamppkeaaW.PrintLast Go.Proofs.YtmidcafamppkeaaW.PrintMore
attribute [local go_sem] max2_int min2_int max_two min_two max_three min_three max_four min_four
set_option linter.unusedVariables false
set_option linter.unusedSimpArgs false

/-- Two boxed signs: what their cells read. -/
def S2 (g1 g2 : Nat) (sn : Int) (st : ByteArray) (tn : Int) (tt : ByteArray) (W : World) : Prop :=
  W.cell? ⟨g1, 0, none⟩ = some (.int .i64 sn) ∧ W.cell? ⟨g1, 1, none⟩ = some (.string st) ∧ W.cell? ⟨g2, 0, none⟩ = some (.int .i64 tn) ∧ W.cell? ⟨g2, 1, none⟩ = some (.string tt)
theorem S2.of {g1 g2 : Nat} {sn : Int} {st : ByteArray} {tn : Int} {tt : ByteArray} {W : World} (h1 : W.heap[g1]? = some (.cells #[.int .i64 sn, .string st] 30 (0, 0))) (h2 : W.heap[g2]? = some (.cells #[.int .i64 tn, .string tt] 30 (0, 0))) : S2 g1 g2 sn st tn tt W :=
  ⟨(blk_cell h1 0).trans rfl, (blk_cell h1 1).trans rfl, (blk_cell h2 0).trans rfl, (blk_cell h2 1).trans rfl⟩
theorem S2.below {g1 g2 : Nat} {sn : Int} {st : ByteArray} {tn : Int} {tt : ByteArray} {W W' : World} (h : S2 g1 g2 sn st tn tt W) (hb : Below W.heap.size W W') : S2 g1 g2 sn st tn tt W' :=
  ⟨(hb.cell (World.block_lt_of_cell? _ _ h.1)).trans h.1, (hb.cell (World.block_lt_of_cell? _ _ h.2.1)).trans h.2.1, (hb.cell (World.block_lt_of_cell? _ _ h.2.2.1)).trans h.2.2.1, (hb.cell (World.block_lt_of_cell? _ _ h.2.2.2)).trans h.2.2.2⟩
theorem dB {P : Program} {f : FuncId} {args : Array Value} {w : World} {v : Value} (c : Calls P f args w fun e w' => e = .returned v ∧ Drawn0 w w') : Calls P f args w fun e w' => e = .returned v ∧ Below w.heap.size w w' :=
  c.mono (by rintro e w' ⟨h, ⟨nd, rfl⟩⟩; exact ⟨h, pw_below_drewN (Below.refl _ _) _⟩)
theorem b2 {w W : World} {g1 g2 : Nat} (h : Aside0 (Below w.heap.size w W)) (h1 : Aside0 (w.heap.size ≤ g1)) (h2 : Aside0 (w.heap.size ≤ g2)) {W' : World} (s : Below w.heap.size w W → w.heap.size ≤ g1 → w.heap.size ≤ g2 → Below w.heap.size w W' := by intro h_ k1_ k2_; repeat (first | (with_reducible first | exact h_ | apply below_alloc | apply pw_below_drewN | apply below_drew1 | refine below_set ?_ k1_ | refine below_set ?_ k2_) | exact h_)) : Below w.heap.size w W' := s h.out h1.out h2.out
section
variable {P : Program} {ops : Array Oper} {Q : Exit → Act → World → Prop} {md : Region.Mode} {S : World → Prop} {ds : List Nat}
/-- A call in a drawing region that only makes memory: what is held stays. -/
theorem gd (i N : Nat) {T : Bool × List (List Nat × List Nat)} {oi : Oper} {fuel : Nat} {l : Array Bool} {a a' : Act} {w : World} {f : FuncId} {fn : Func} {av : Array Operand} {ts : Array TypeId} {args : Array Value} {v : Value} (hT : Aside0 (rtab md ops = T)) (hf : P.funcs[f]? = some fn)
    (c : Calls P f args w fun e w' => e = .returned v ∧ Below w.heap.size w w') (hS : ∀ w', Below w.heap.size w w' → S w') (h : ∀ w', Below w.heap.size w w' → S w' → wpAnyLast P md ops Q S ds fuel (l.setIfInBounds i true) a' w')
    (hi : ops[i]? = some oi := by exact rfl) (hN : oi.dst = some N := by exact rfl) (hop : oi.op = .call { callee := .value (.func f), args := av, argTypes := ts } := by exact rfl) (hc : (readyT T.2 l.toList == [i] && l.toList.set i true == (l.setIfInBounds i true).toList) = true := by kernel_rfl) (hd : i ∉ ds := by decide)
    (hname : (fn.name == "runtime.NumGoroutine") = false := by kernel_rfl) (hb : fn.body.isSome = true := by rfl) (hw : Region.wanted oi (yielded ops a.tmps) = true := by rfl)
    (hargs : av.map a.eval = args := by (try simp only [List.map_toArray, List.map_cons, List.map_nil]); first | done | rfl)
    (ha : a.put (some N) v = a' := by simp only [Act.put, List.setIfInBounds_toArray, List.set_cons_zero, List.set_cons_succ, i64_w, i32_w]; rfl) : wpAnyLast P md ops Q S ds (fuel + 1) l a w :=
  one_ (i := i) (N := some N) (l.setIfInBounds i true) hi hN (one_of hT.out hc) hd (fun K hK => goes_ hf hname hb args hw hN hop hargs (c.mono (by
    rintro e w' ⟨rfl, h2⟩
    exact ⟨_, rfl, hK.out _ _ (hS w' h2) (fun hs => by rw [ha]; exact h w' h2 hs)⟩)))
end
def laws_FnCrossings.T11 : Bool × List (List Nat × List Nat) := (true, [([], []), ([], []), ([], []), ([0, 1, 2], [0, 1, 2]), ([], []), ([], []), ([], []), ([4, 5, 6, 3], [4, 5, 6]), ([3, 7], [3, 7]), ([8, 7], [8]), ([9], [9]), ([9], [9]), ([10, 11, 9], [9, 10, 11]), ([9, 12], [9, 12]), ([13, 9], [13]), ([14], [14]), ([14], [14]), ([15, 16, 14], [14, 15, 16]), ([14, 17], [14, 17]), ([18, 14], [18]), ([19], [19]), ([19], [19]), ([19], [19]), ([19], [19]), ([19], [19]), ([20, 21, 22, 23, 24, 19, 19], [19, 20, 21, 22, 23, 24]), ([19], [19]), ([19], [19]), ([19], [19]), ([19], [19]), ([19], [19]), ([26, 27, 28, 29, 30, 25, 19], [19, 26, 27, 28, 29, 30]), ([25, 31, 19], [19, 25, 31]), ([19, 32], [19, 32]), ([33, 31], [33]), ([34], [34]), ([34], [34]), ([34], [34]), ([36, 37, 34, 34], [34, 36, 37]), ([35, 38, 34], [34, 35, 38]), ([34, 39], [34, 39]), ([40, 38], [40]), ([41], [41]), ([42, 41, 41], [41, 42]), ([41], [41]), ([44, 43, 41], [41, 44]), ([43, 45, 41], [41, 43, 45]), ([41, 46], [41, 46]), ([47, 45], [47]), ([48], [48]), ([49, 48, 48], [48, 49]), ([48], [48]), ([51, 50, 48], [48, 51]), ([50, 52, 48], [48, 50, 52]), ([48, 53], [48, 53]), ([54, 52], [54]), ([55], [55]), ([56, 55, 55], [55, 56]), ([55], [55]), ([58, 57, 55], [55, 58]), ([57, 59, 55], [55, 57, 59]), ([55, 60], [55, 60]), ([61, 59], [61]), ([62], [62]), ([62], [62]), ([63, 64, 62, 62], [62, 63, 64]), ([62], [62]), ([66, 62], [62, 66]), ([65, 67, 62], [62, 65, 67]), ([62, 68], [62, 68])])
def laws_FnCrossings.B11 : List Nat := [0, 0, 0, 7, 0, 0, 0, 127, 255, 511, 1023, 1023, 4095, 8191, 16383, 32767, 32767, 131071, 262143, 524287, 1048575, 1048575, 1048575, 1048575, 1048575, 33554431, 1048575, 1048575, 1048575, 1048575, 1048575, 2147483647, 4294967295, 8589934591, 17179869183, 34359738367, 34359738367, 34359738367, 240518168575, 549755813887, 1099511627775, 2199023255551, 4398046511103, 8796093022207, 4398046511103, 35184372088831, 70368744177663, 140737488355327, 281474976710655, 562949953421311, 1125899906842623, 562949953421311, 4503599627370495, 9007199254740991, 18014398509481983, 36028797018963967, 72057594037927935, 144115188075855871, 72057594037927935, 576460752303423487, 1152921504606846975, 2305843009213693951, 4611686018427387903, 9223372036854775807, 9223372036854775807, 36893488147419103231, 9223372036854775807, 83010348331692982271, 295147905179352825855, 590295810358705651711]
theorem laws_FnCrossings.tab11 : rtab .any (opsOf Try.f3 11) = laws_FnCrossings.T11 := by kernel_rfl
theorem laws_FnCrossings.bits11 : waitsOk laws_FnCrossings.T11.2 laws_FnCrossings.B11 = true := by kernel_rfl
def laws_FnCrossings.T19 : Bool × List (List Nat × List Nat) := (true, [([], []), ([], []), ([1], [1]), ([2], [2]), ([0, 3, 3], [0, 3]), ([], []), ([5, 4], [5]), ([4, 6], [4, 6]), ([7, 6], [7]), ([8], [8]), ([9, 8, 8], [8, 9]), ([10, 10, 8], [8, 10]), ([8], [8]), ([12, 11, 8], [8, 12]), ([11, 13, 8], [8, 11, 13]), ([8, 14], [8, 14]), ([15, 13], [15]), ([16], [16]), ([17, 16, 16], [16, 17]), ([16], [16]), ([19, 18, 16], [16, 19]), ([18, 20, 16], [16, 18, 20]), ([21, 16], [16, 21]), ([16, 22], [16, 22])])
def laws_FnCrossings.B19 : List Nat := [0, 0, 2, 6, 15, 0, 63, 127, 255, 511, 1023, 2047, 511, 8191, 16383, 32767, 65535, 131071, 262143, 131071, 1048575, 2097151, 4194303, 8388607]
theorem laws_FnCrossings.tab19 : rtab .any (opsOf Try.f3 19) = laws_FnCrossings.T19 := by kernel_rfl
theorem laws_FnCrossings.bits19 : waitsOk laws_FnCrossings.T19.2 laws_FnCrossings.B19 = true := by kernel_rfl
def laws_FnCrossings.T21 : Bool × List (List Nat × List Nat) := (true, [([], []), ([], []), ([1], [1]), ([0, 2, 2], [0, 2]), ([3, 3], [3]), ([4], [4]), ([4], [4]), ([6, 4, 4], [4, 6]), ([5, 7, 7, 4], [4, 5, 7]), ([4, 8], [4, 8]), ([9, 8, 0, 1, 2, 3, 4, 5, 6, 7, 8, 9], [9])])
def laws_FnCrossings.B21 : List Nat := [0, 0, 2, 7, 15, 31, 31, 95, 255, 511, 1023]
theorem laws_FnCrossings.tab21 : rtab .any (opsOf Try.f3 21) = laws_FnCrossings.T21 := by kernel_rfl
theorem laws_FnCrossings.bits21 : waitsOk laws_FnCrossings.T21.2 laws_FnCrossings.B21 = true := by kernel_rfl
set_option maxHeartbeats 8000000 in
set_option maxRecDepth 100000 in
theorem laws_FnCrossings.big (A0 : Option Addr) (c0 : Nat) (l0 : List Int) (w : World) (hr0 : Kd.C (Kd.int .u8) w A0 l0.length l0) (hc0 : l0.length ≤ c0) (h : laws_big.f l0 = some true) :
    Calls Try.prog 3 #[.slice A0 l0.length c0] w fun e w' => e = .returned (.bool true) ∧ Below w.heap.size w w' := by
  have HB := Aside0.mk (Below.refl w.heap.size w)
  have HR0 := Aside0.mk hr0
  have HC0 := Aside0.mk hc0
  have A4 := Aside0.mk h
  clear hr0 hc0 h
  go_enter Try.func3, Try.ntmps3
  go_wp2_with ((with_reducible refine gate_callee (f := 4) rfl ?_); refine gM (some 22) Try.func4 rfl (dB (laws_big.calls A0 c0 l0 true _ (Kd.C_below HR0.out (bl HB)) HC0.out A4.out)) ?_; intro w1 hb; replace HB := bs HB hb; clear hb)
  go_ret
  exact ⟨rfl, bl HB⟩
set_option maxHeartbeats 8000000 in
set_option maxRecDepth 100000 in
theorem laws_FnCrossings.calls (k : Nat) (A0 : Option Addr) (c0 : Nat) (l0 : List Int) (n i j v m q a b sn x0 x1 x2 x3 tn e c al ae hu fr e1 qn hz : Int) (st tt : ByteArray) (dc acy : Bool) (w : World) (hr0 : Kd.C (Kd.int .u8) w A0 l0.length l0) (hc0 : l0.length ≤ c0)
    (a4 : laws_big.f l0 = some false) (a5 : spec_DrawEdgeIndex.f k l0 = some (n, i, j)) (a6 : spec_DrawEdgeAt.f k l0 = some (m, q)) (a7 : impl_EdgeAt.f k m q = some (a, b)) (a8 : spec_EdgeAt.f k m q = some (a, b)) (a9 : spec_DrawDoCross.f k l0 = some (sn, st, x0, x1, x2, x3)) (a10 : spec_DrawCrossingPairs.f k l0 = some (tn, tt, e)) (a11 : impl_CrossingPairs.f k tn tt e = some c) (a12 : spec_DrawAllEdges.f k l0 = some al)
    (a13 : impl_EdgeIndex.f k n i j = some v) (a14 : spec_EdgeIndex.f k n i j = some v) (a15 : impl_DoCross.f k sn st x0 x1 x2 x3 = some dc) (a16 : spec_DoCross.f k sn st x0 x1 x2 x3 = some dc) (a17 : spec_CrossingPairs.f k tn tt e = some c) (a18 : impl_AllEdges.f al = some ae) (a19 : spec_AllEdges.f al = some ae)
    (a20 : impl_HullEdges.f k tn tt = some hu) (a21 : spec_HullEdges.f k tn tt = some hu) (a22 : impl_FreeEdges.f k tn tt = some fr) (a23 : spec_FreeEdges.f k tn tt = some fr) (a24 : impl_IsPlane.f k tn tt e = some (c == 0))
    (b13 : 0 ≤ a → impl_EdgeIndex.f k m b a = some q) (c13 : impl_EdgeIndex.f k n j i = some v) (b15 : dc = true → impl_DoCross.f k sn st x0 x2 x1 x3 = some false ∧ impl_DoCross.f k sn st x2 x3 x1 x0 = some true) (a25 : spec_IsAcyclic.f k tn tt = some acy) (b25 : acy = false → c = -1)
    (hac : acy = true → impl_AllEdges.f tn = some e1 ∧ impl_CrossingPairs.f k tn tt e1 = some qn ∧ spec_CountQuads.f k tn tt = some qn ∧ laws_size.f k hu = some hz ∧ spec_HullSize.f k tn tt = some hz ∧ Go.bits .andNot .i64 hu fr = 0 ∧ impl_IsPlane.f k tn tt hu = some true ∧ impl_IsPlane.f k tn tt fr = some true) :
    Calls Try.prog 3 #[.slice A0 l0.length c0] w fun e w' => e = .returned (.bool true) ∧ Below w.heap.size w w' := by
  have hu30 := Try.underlying30
  have HB := Aside0.mk (Below.refl w.heap.size w)
  have HR0 := Aside0.mk hr0; have HC0 := Aside0.mk hc0
  have A4 := Aside0.mk a4; have A5 := Aside0.mk a5; have A6 := Aside0.mk a6; have A7 := Aside0.mk a7; have A8 := Aside0.mk a8; have A9 := Aside0.mk a9; have A10 := Aside0.mk a10; have A11 := Aside0.mk a11; have A12 := Aside0.mk a12; have A13 := Aside0.mk a13; have A14 := Aside0.mk a14; have A15 := Aside0.mk a15; have A16 := Aside0.mk a16; have A17 := Aside0.mk a17; have A18 := Aside0.mk a18; have A19 := Aside0.mk a19; have A20 := Aside0.mk a20; have A21 := Aside0.mk a21; have A22 := Aside0.mk a22; have A23 := Aside0.mk a23; have A24 := Aside0.mk a24; have A25 := Aside0.mk a25
  have B13 := Aside0.mk b13; have C13 := Aside0.mk c13; have B15 := Aside0.mk b15; have B26 := Aside0.mk b25; have HAC := Aside0.mk hac
  clear hr0 hc0 a4 a5 a6 a7 a8 a9 a10 a11 a12 a13 a14 a15 a16 a17 a18 a19 a20 a21 a22 a23 a24 a25 b13 c13 b15 b25 hac
  go_enter Try.func3, Try.ntmps3
  go_upto_region 11 with (first
    | ((with_reducible refine gate_callee (f := 4) rfl ?_); refine gM (some 22) Try.func4 rfl (dB (laws_big.calls A0 c0 l0 false _ (Kd.C_below HR0.out (bl HB)) HC0.out A4.out)) ?_; intro w1 hb; replace HB := bs HB hb; clear hb)
    | ((with_reducible refine gate_callee (f := 5) rfl ?_); refine gM (some 25) Try.func5 rfl (spec_DrawEdgeIndex.calls k A0 c0 l0 n i j _ (Kd.C_below HR0.out (bl HB)) HC0.out A5.out) ?_; intro w2 hb; replace HB := bs HB hb; clear hb)
    | ((with_reducible refine gate_callee (f := 6) rfl ?_); refine gM (some 31) Try.func6 rfl (spec_DrawEdgeAt.calls k A0 c0 l0 m q _ (Kd.C_below HR0.out (bl HB)) HC0.out A6.out) ?_; intro w3 hb; replace HB := bs HB hb; clear hb)
    | ((with_reducible refine gate_callee (f := 7) rfl ?_); refine gM (some 37) Try.func7 rfl (impl_EdgeAt.calls k m q a b _ A7.out) ?_; intro w4 hb; replace HB := bs HB hb; clear hb)
    | ((with_reducible refine gate_callee (f := 8) rfl ?_); refine gM (some 43) Try.func8 rfl (dB (spec_EdgeAt.calls k m q a b _ A8.out)) ?_; intro w5 hb; replace HB := bs HB hb; clear hb)
    | ((with_reducible refine gate_callee (f := 9) rfl ?_); refine gM (some 48) Try.func9 rfl (spec_DrawDoCross.calls k A0 c0 l0 sn st x0 x1 x2 x3 _ (Kd.C_below HR0.out (bl HB)) HC0.out A9.out) ?_; intro w6 hb; replace HB := bs HB hb; clear hb)
    | ((with_reducible refine gate_dst (N := 12) rfl ?_); refine bx 12 #[.int .i64 0, .string (⟨#[]⟩ : ByteArray)] 30 ?_; intro g1 hg w7 hbox hb; have BK1 := Aside0.mk hbox; have GE1 := gs HB hg; replace HB := bs HB hb; clear hb hbox hg; have hcz1_0 := bc BK1 0; have hcz1_1 := bc BK1 1; have hfz1_0 := bf BK1 0; have hfz1_1 := bf BK1 1)
    | ((with_reducible refine gate_callee (f := 10) rfl ?_); refine gM (some 56) Try.func10 rfl (spec_DrawCrossingPairs.calls k A0 c0 l0 tn tt e _ (Kd.C_below HR0.out (bg HB GE1)) HC0.out A10.out) ?_; intro w8 hb; replace BK1 : Aside0 (w8.heap[g1]? = some (.cells #[.int .i64 sn, .string st] 30 (0, 0))) := bw hb (by refine blk_put (cs := #[.int .i64 sn, .string (⟨#[]⟩ : ByteArray)]) ?_ 1 _ rfl; refine blk_put (cs := #[.int .i64 0, .string (⟨#[]⟩ : ByteArray)]) ?_ 0 _ rfl; exact BK1.out); replace HB := bsg HB GE1 hb; clear hb)
    | ((with_reducible refine gate_dst (N := 17) rfl ?_); refine bx 17 #[.int .i64 0, .string (⟨#[]⟩ : ByteArray)] 30 ?_; intro g2 hg w9 hbox hb; have NB12 := nl (blk_lt (bk BK1)) hg; have NB21 := nq (blk_lt (bk BK1)) hg; replace BK1 := bw hb (bk BK1); have GE2 := gs HB hg; replace HB := bs HB hb; have BK2 := Aside0.mk hbox; clear hb hbox hg; have hnb2 := NB21.out; have hnc2 := NB12.out; have hcz2_0 := bc BK2 0; have hcz2_1 := bc BK2 1; have hfz2_0 := bf BK2 0; have hfz2_1 := bf BK2 1)
    | ((with_reducible refine gate_callee (f := 11) rfl ?_); refine gM (some 61) Try.func11 rfl (impl_CrossingPairs.calls k tn tt e c _ A11.out) ?_; intro wa hb; replace BK1 : Aside0 (wa.heap[g1]? = some (.cells #[.int .i64 sn, .string st] 30 (0, 0))) := bw hb (by refine blk_far ?_ NB12.out _; refine blk_far ?_ NB12.out _; exact bk BK1); replace BK2 : Aside0 (wa.heap[g2]? = some (.cells #[.int .i64 tn, .string tt] 30 (0, 0))) := bw hb (by refine blk_put (cs := #[.int .i64 tn, .string (⟨#[]⟩ : ByteArray)]) ?_ 1 _ rfl; refine blk_put (cs := #[.int .i64 0, .string (⟨#[]⟩ : ByteArray)]) ?_ 0 _ rfl; exact BK2.out); replace HB := Aside0.mk (below_step (b2 HB GE1 GE2) hb); clear hb)
    | ((with_reducible refine gate_callee (f := 12) rfl ?_); refine gM (some 63) Try.func12 rfl (spec_DrawAllEdges.calls k A0 c0 l0 al _ (Kd.C_below HR0.out (bl HB)) HC0.out A12.out) ?_; intro wb hb; replace BK1 := bw hb (bk BK1); replace BK2 := bw hb (bk BK2); replace HB := bs HB hb; clear hb))
  (try simp only [Act.put, List.setIfInBounds_toArray, List.set_cons_zero, List.set_cons_succ])
  go_cut [133] (fun v133 wc => v133 = .bool false ∧ Aside0 (wc.heap[g1]? = some (.cells #[.int .i64 sn, .string st] 30 (0, 0))) ∧ Aside0 (wc.heap[g2]? = some (.cells #[.int .i64 tn, .string tt] 30 (0, 0))) ∧ Aside0 (Below w.heap.size w wc))
  case first =>
   as_aux_lemma =>
    have f1 : (v != v) = false := bne_self_eq_false v
    have f2 : (a != a) = false := bne_self_eq_false a
    have f3 : (b != b) = false := bne_self_eq_false b
    have f4 : (dc != dc) = false := bne_self_eq_false dc
    have f5 : (c != c) = false := bne_self_eq_false c
    have f6 : (ae != ae) = false := bne_self_eq_false ae
    have f7 : (hu != hu) = false := bne_self_eq_false hu
    have f8 : (fr != fr) = false := bne_self_eq_false fr
    have f9 : ((c == 0) != (c == 0)) = false := bne_self_eq_false _
    refine sr 70 (S2 g1 g2 sn st tn tt) laws_FnCrossings.tab11 laws_FnCrossings.bits11 (S2.of (bk BK1) (bk BK2)) (fun hHeld HT_ HW_ => ?_)
    refine pu 0 64 HT_ ?_
    refine pu 1 65 HT_ ?_
    refine pu 2 66 HT_ ?_
    refine pu 4 68 HT_ ?_
    refine pu 5 69 HT_ ?_
    refine pu 6 70 HT_ ?_
    refine gd 3 67 HT_ Try.func13 (impl_EdgeIndex.calls k n i j v _ A13.out) (fun w_ hb => hHeld.below hb) (fun w_ hb hHeld => ?_); replace HB := bs HB hb; replace BK1 := bw hb (bk BK1); replace BK2 := bw hb (bk BK2); clear hb
    refine gd 7 71 HT_ Try.func14 (spec_EdgeIndex.calls k n i j v _ A14.out) (fun w_ hb => hHeld.below hb) (fun w_ hb hHeld => ?_); replace HB := bs HB hb; replace BK1 := bw hb (bk BK1); replace BK2 := bw hb (bk BK2); clear hb
    refine pu 8 72 HT_ ?_
    refine pu 9 73 HT_ ?_
    refine pu 10 74 HT_ ?_
    refine pu 11 75 HT_ ?_
    refine pu 12 76 HT_ ?_
    refine pu 13 77 HT_ ?_
    refine pu 14 78 HT_ ?_
    refine pu 15 79 HT_ ?_
    refine pu 16 80 HT_ ?_
    refine pu 17 81 HT_ ?_
    refine pu 18 82 HT_ ?_
    refine pu 19 83 HT_ ?_
    refine pu 21 85 HT_ ?_
    refine pu 22 86 HT_ ?_
    refine pu 23 87 HT_ ?_
    refine pu 24 88 HT_ ?_
    refine pu 27 91 HT_ ?_
    refine pu 28 92 HT_ ?_
    refine pu 29 93 HT_ ?_
    refine pu 30 94 HT_ ?_
    refine tq 20 84 HT_ HW_ hHeld ?_
    refine tq 26 90 HT_ HW_ hHeld ?_
    refine gd 25 89 HT_ Try.func15 (impl_DoCross.calls k sn st x0 x1 x2 x3 dc _ A15.out) (fun w_ hb => hHeld.below hb) (fun w_ hb hHeld => ?_); replace HB := bs HB hb; replace BK1 := bw hb (bk BK1); replace BK2 := bw hb (bk BK2); clear hb
    refine gd 31 95 HT_ Try.func16 (spec_DoCross.calls k sn st x0 x1 x2 x3 dc _ A16.out) (fun w_ hb => hHeld.below hb) (fun w_ hb hHeld => ?_); replace HB := bs HB hb; replace BK1 := bw hb (bk BK1); replace BK2 := bw hb (bk BK2); clear hb
    refine pu 32 96 HT_ ?_
    refine pu 33 97 HT_ ?_
    refine pu 34 98 HT_ ?_
    refine pu 35 99 HT_ ?_
    refine pu 37 101 HT_ ?_
    refine tq 36 100 HT_ HW_ hHeld ?_
    refine gd 38 102 HT_ Try.func17 (spec_CrossingPairs.calls k tn tt e c _ A17.out) (fun w_ hb => hHeld.below hb) (fun w_ hb hHeld => ?_); replace HB := bs HB hb; replace BK1 := bw hb (bk BK1); replace BK2 := bw hb (bk BK2); clear hb
    refine pu 39 103 HT_ ?_
    refine pu 40 104 HT_ ?_
    refine pu 41 105 HT_ ?_
    refine pu 42 106 HT_ ?_
    refine pu 44 108 HT_ ?_
    refine gd 43 107 HT_ Try.func18 (dB (impl_AllEdges.calls al ae _ A18.out)) (fun w_ hb => hHeld.below hb) (fun w_ hb hHeld => ?_); replace HB := bs HB hb; replace BK1 := bw hb (bk BK1); replace BK2 := bw hb (bk BK2); clear hb
    refine gd 45 109 HT_ Try.func19 (dB (spec_AllEdges.calls al ae _ A19.out)) (fun w_ hb => hHeld.below hb) (fun w_ hb hHeld => ?_); replace HB := bs HB hb; replace BK1 := bw hb (bk BK1); replace BK2 := bw hb (bk BK2); clear hb
    refine pu 46 110 HT_ ?_
    refine pu 47 111 HT_ ?_
    refine pu 48 112 HT_ ?_
    refine tq 49 113 HT_ HW_ hHeld ?_
    refine tq 51 115 HT_ HW_ hHeld ?_
    refine gd 50 114 HT_ Try.func20 (impl_HullEdges.calls k tn tt hu _ A20.out) (fun w_ hb => hHeld.below hb) (fun w_ hb hHeld => ?_); replace HB := bs HB hb; replace BK1 := bw hb (bk BK1); replace BK2 := bw hb (bk BK2); clear hb
    refine gd 52 116 HT_ Try.func21 (spec_HullEdges.calls k tn tt hu _ A21.out) (fun w_ hb => hHeld.below hb) (fun w_ hb hHeld => ?_); replace HB := bs HB hb; replace BK1 := bw hb (bk BK1); replace BK2 := bw hb (bk BK2); clear hb
    refine pu 53 117 HT_ ?_
    refine pu 54 118 HT_ ?_
    refine pu 55 119 HT_ ?_
    refine tq 56 120 HT_ HW_ hHeld ?_
    refine tq 58 122 HT_ HW_ hHeld ?_
    refine gd 57 121 HT_ Try.func22 (impl_FreeEdges.calls k tn tt fr _ A22.out) (fun w_ hb => hHeld.below hb) (fun w_ hb hHeld => ?_); replace HB := bs HB hb; replace BK1 := bw hb (bk BK1); replace BK2 := bw hb (bk BK2); clear hb
    refine gd 59 123 HT_ Try.func23 (spec_FreeEdges.calls k tn tt fr _ A23.out) (fun w_ hb => hHeld.below hb) (fun w_ hb hHeld => ?_); replace HB := bs HB hb; replace BK1 := bw hb (bk BK1); replace BK2 := bw hb (bk BK2); clear hb
    refine pu 60 124 HT_ ?_
    refine pu 61 125 HT_ ?_
    refine pu 62 126 HT_ ?_
    refine pu 64 128 HT_ ?_
    refine pu 66 130 HT_ ?_
    refine pu 67 131 HT_ ?_
    refine tq 63 127 HT_ HW_ hHeld ?_
    refine gd 65 129 HT_ Try.func24 (impl_IsPlane.calls k tn tt e (c == 0) _ A24.out) (fun w_ hb => hHeld.below hb) (fun w_ hb hHeld => ?_); replace HB := bs HB hb; replace BK1 := bw hb (bk BK1); replace BK2 := bw hb (bk BK2); clear hb
    refine pu 68 132 HT_ ?_
    refine pu 69 133 HT_ ?_
    refine done_ (done_of HT_.out (by kernel_rfl)) ?_
    go_wp2
    go_meet
    case rel => exact ⟨rfl, ⟨bk BK1⟩, ⟨bk BK2⟩, ⟨bl HB⟩⟩
  case rest =>
   as_aux_lemma =>
    obtain ⟨rfl, BK1, BK2, HB⟩ := hcut
    go_upto_region 13 with (fail)
    go_cut [154] (fun v154 wc => v154 = .bool false ∧ Aside0 (wc.heap[g1]? = some (.cells #[.int .i64 sn, .string st] 30 (0, 0))) ∧ Aside0 (wc.heap[g2]? = some (.cells #[.int .i64 tn, .string tt] 30 (0, 0))) ∧ Aside0 (Below w.heap.size w wc))
    case first =>
     as_aux_lemma =>
      have f1 : (v != v) = false := bne_self_eq_false v
      have f2 : (q != q) = false := bne_self_eq_false q
      by_cases ha : 0 ≤ a
      · have D13 := Aside0.mk (B13.out ha)
        have ha2 : decide (0 ≤ a) = true := decide_eq_true ha
        clear ha
        go_wp2_with (first | (go_at_call 13; (with_reducible refine (impl_EdgeIndex.calls k m b a q _ D13.out).mono ?_); rintro e w1 ⟨rfl, hb⟩; replace BK1 := bw hb (bk BK1); replace BK2 := bw hb (bk BK2); replace HB := bs HB hb; clear hb) | (go_at_call 13; (with_reducible refine (impl_EdgeIndex.calls k n i j v _ A13.out).mono ?_); rintro e w1 ⟨rfl, hb⟩; replace BK1 := bw hb (bk BK1); replace BK2 := bw hb (bk BK2); replace HB := bs HB hb; clear hb) | (go_at_call 13; (with_reducible refine (impl_EdgeIndex.calls k n j i v _ C13.out).mono ?_); rintro e w1 ⟨rfl, hb⟩; replace BK1 := bw hb (bk BK1); replace BK2 := bw hb (bk BK2); replace HB := bs HB hb; clear hb))
        go_meet
        case rel => exact ⟨by first | rfl | simp, ⟨bk BK1⟩, ⟨bk BK2⟩, ⟨bl HB⟩⟩
      · have ha2 : decide (0 ≤ a) = false := decide_eq_false ha
        clear ha
        go_wp2_with (first | (go_at_call 13; (with_reducible refine (impl_EdgeIndex.calls k n i j v _ A13.out).mono ?_); rintro e w1 ⟨rfl, hb⟩; replace BK1 := bw hb (bk BK1); replace BK2 := bw hb (bk BK2); replace HB := bs HB hb; clear hb) | (go_at_call 13; (with_reducible refine (impl_EdgeIndex.calls k n j i v _ C13.out).mono ?_); rintro e w1 ⟨rfl, hb⟩; replace BK1 := bw hb (bk BK1); replace BK2 := bw hb (bk BK2); replace HB := bs HB hb; clear hb))
        go_meet
        case rel => exact ⟨by first | rfl | simp, ⟨bk BK1⟩, ⟨bk BK2⟩, ⟨bl HB⟩⟩
    case rest =>
     as_aux_lemma =>
      obtain ⟨rfl, BK1, BK2, HB⟩ := hcut
      go_upto_region 15 with (fail)
      go_cut [177] (fun v177 wc => v177 = .bool false ∧ Aside0 (wc.heap[g1]? = some (.cells #[.int .i64 sn, .string st] 30 (0, 0))) ∧ Aside0 (wc.heap[g2]? = some (.cells #[.int .i64 tn, .string tt] 30 (0, 0))) ∧ Aside0 (Below w.heap.size w wc))
      case first =>
       as_aux_lemma =>
        have hcz1_0 := bc BK1 0; have hcz1_1 := bc BK1 1
        cases dc with
        | true =>
          have D15 := Aside0.mk (B15.out rfl).1; have E15 := Aside0.mk (B15.out rfl).2
          go_wp2_with (first | (go_at_call 15; (with_reducible refine (impl_DoCross.calls k sn st x0 x1 x2 x3 true _ A15.out).mono ?_); rintro e w1 ⟨rfl, hb⟩; replace BK1 := bw hb (bk BK1); replace BK2 := bw hb (bk BK2); replace HB := bs HB hb; clear hb; have hcz1_0 := bc BK1 0; have hcz1_1 := bc BK1 1) | (go_at_call 15; (with_reducible refine (impl_DoCross.calls k sn st x0 x2 x1 x3 false _ D15.out).mono ?_); rintro e w1 ⟨rfl, hb⟩; replace BK1 := bw hb (bk BK1); replace BK2 := bw hb (bk BK2); replace HB := bs HB hb; clear hb; have hcz1_0 := bc BK1 0; have hcz1_1 := bc BK1 1) | (go_at_call 15; (with_reducible refine (impl_DoCross.calls k sn st x2 x3 x1 x0 true _ E15.out).mono ?_); rintro e w1 ⟨rfl, hb⟩; replace BK1 := bw hb (bk BK1); replace BK2 := bw hb (bk BK2); replace HB := bs HB hb; clear hb; have hcz1_0 := bc BK1 0; have hcz1_1 := bc BK1 1))
          go_meet
          case rel => exact ⟨by first | rfl | simp, ⟨bk BK1⟩, ⟨bk BK2⟩, ⟨bl HB⟩⟩
        | false =>
          go_wp2_with (go_at_call 15; (with_reducible refine (impl_DoCross.calls k sn st x0 x1 x2 x3 false _ A15.out).mono ?_); rintro e w1 ⟨rfl, hb⟩; replace BK1 := bw hb (bk BK1); replace BK2 := bw hb (bk BK2); replace HB := bs HB hb; clear hb; have hcz1_0 := bc BK1 0; have hcz1_1 := bc BK1 1)
          go_meet
          case rel => exact ⟨by first | rfl | simp, ⟨bk BK1⟩, ⟨bk BK2⟩, ⟨bl HB⟩⟩
      case rest =>
       as_aux_lemma =>
        obtain ⟨rfl, BK1, BK2, HB⟩ := hcut
        have hcz2_0 := bc BK2 0; have hcz2_1 := bc BK2 1
        cases acy with
        | false =>
          obtain rfl := B26.out rfl
          go_wp2_with ((with_reducible refine gate_callee (f := 25) rfl ?_); refine gM (some 179) Try.func25 rfl (spec_IsAcyclic.calls k tn tt false _ A25.out) ?_; intro w1 hb; replace BK1 := bw hb (bk BK1); replace BK2 := bw hb (bk BK2); replace HB := bs HB hb; clear hb)
          go_ret
          exact ⟨rfl, bl HB⟩
        | true =>
          obtain ⟨b18, b11, b26, b27, b28, hnot, b24, b25⟩ := HAC.out rfl
          have B18 := Aside0.mk b18; have B11 := Aside0.mk b11; replace B26 := Aside0.mk b26; have B27 := Aside0.mk b27; have B28 := Aside0.mk b28; have B24 := Aside0.mk b24; have B25 := Aside0.mk b25
          have HNOT := Aside0.mk hnot
          clear b18 b11 b26 b27 b28 b24 b25 HAC hnot
          go_upto_region 19 with ((with_reducible refine gate_callee (f := 25) rfl ?_); refine gM (some 179) Try.func25 rfl (spec_IsAcyclic.calls k tn tt true _ A25.out) ?_; intro w1 hb; replace BK1 := bw hb (bk BK1); replace BK2 := bw hb (bk BK2); replace HB := bs HB hb; clear hb)
          (try simp only [Act.put, List.setIfInBounds_toArray, List.set_cons_zero, List.set_cons_succ])
          go_cut [206] (fun v206 wc => v206 = .bool false ∧ Aside0 (wc.heap[g1]? = some (.cells #[.int .i64 sn, .string st] 30 (0, 0))) ∧ Aside0 (wc.heap[g2]? = some (.cells #[.int .i64 tn, .string tt] 30 (0, 0))) ∧ Aside0 (Below w.heap.size w wc))
          case first =>
           as_aux_lemma =>
            have f1 : (qn != qn) = false := bne_self_eq_false qn
            have f2 : (hz != hz) = false := bne_self_eq_false hz
            have f3 := HNOT.out
            have f4 : ((0 : Int) != 0) = false := rfl
            refine sr 24 (S2 g1 g2 sn st tn tt) laws_FnCrossings.tab19 laws_FnCrossings.bits19 (S2.of (bk BK1) (bk BK2)) (fun hHeld HT_ HW_ => ?_)
            refine pu 1 184 HT_ ?_
            refine tq 0 183 HT_ HW_ hHeld ?_
            refine tq 2 185 HT_ HW_ hHeld ?_
            refine tq 5 188 HT_ HW_ hHeld ?_
            refine gd 3 186 HT_ Try.func18 (dB (impl_AllEdges.calls tn e1 _ B18.out)) (fun w_ hb => hHeld.below hb) (fun w_ hb hHeld => ?_); replace HB := bs HB hb; replace BK1 := bw hb (bk BK1); replace BK2 := bw hb (bk BK2); clear hb
            refine gd 4 187 HT_ Try.func11 (impl_CrossingPairs.calls k tn tt e1 qn _ B11.out) (fun w_ hb => hHeld.below hb) (fun w_ hb hHeld => ?_); replace HB := bs HB hb; replace BK1 := bw hb (bk BK1); replace BK2 := bw hb (bk BK2); clear hb
            refine gd 6 189 HT_ Try.func26 (spec_CountQuads.calls k tn tt qn _ B26.out) (fun w_ hb => hHeld.below hb) (fun w_ hb hHeld => ?_); replace HB := bs HB hb; replace BK1 := bw hb (bk BK1); replace BK2 := bw hb (bk BK2); clear hb
            refine pu 7 190 HT_ ?_
            refine pu 8 191 HT_ ?_
            refine tq 9 192 HT_ HW_ hHeld ?_
            refine tq 12 195 HT_ HW_ hHeld ?_
            refine gd 10 193 HT_ Try.func20 (impl_HullEdges.calls k tn tt hu _ A20.out) (fun w_ hb => hHeld.below hb) (fun w_ hb hHeld => ?_); replace HB := bs HB hb; replace BK1 := bw hb (bk BK1); replace BK2 := bw hb (bk BK2); clear hb
            refine gd 11 194 HT_ Try.func27 (dB (laws_size.calls k hu hz _ B27.out)) (fun w_ hb => hHeld.below hb) (fun w_ hb hHeld => ?_); replace HB := bs HB hb; replace BK1 := bw hb (bk BK1); replace BK2 := bw hb (bk BK2); clear hb
            refine gd 13 196 HT_ Try.func28 (spec_HullSize.calls k tn tt hz _ B28.out) (fun w_ hb => hHeld.below hb) (fun w_ hb hHeld => ?_); replace HB := bs HB hb; replace BK1 := bw hb (bk BK1); replace BK2 := bw hb (bk BK2); clear hb
            refine pu 14 197 HT_ ?_
            refine pu 15 198 HT_ ?_
            refine pu 16 199 HT_ ?_
            refine tq 17 200 HT_ HW_ hHeld ?_
            refine tq 19 202 HT_ HW_ hHeld ?_
            refine gd 18 201 HT_ Try.func20 (impl_HullEdges.calls k tn tt hu _ A20.out) (fun w_ hb => hHeld.below hb) (fun w_ hb hHeld => ?_); replace HB := bs HB hb; replace BK1 := bw hb (bk BK1); replace BK2 := bw hb (bk BK2); clear hb
            refine gd 20 203 HT_ Try.func22 (impl_FreeEdges.calls k tn tt fr _ A22.out) (fun w_ hb => hHeld.below hb) (fun w_ hb hHeld => ?_); replace HB := bs HB hb; replace BK1 := bw hb (bk BK1); replace BK2 := bw hb (bk BK2); clear hb
            refine pu 21 204 HT_ ?_
            refine pu 22 205 HT_ ?_
            refine pu 23 206 HT_ ?_
            refine done_ (done_of HT_.out (by kernel_rfl)) ?_
            go_wp2
            go_meet
            case rel => exact ⟨rfl, ⟨bk BK1⟩, ⟨bk BK2⟩, ⟨bl HB⟩⟩
          case rest =>
           as_aux_lemma =>
            obtain ⟨rfl, BK1, BK2, HB⟩ := hcut
            go_upto_region 21 with (fail)
            refine sr 11 (S2 g1 g2 sn st tn tt) laws_FnCrossings.tab21 laws_FnCrossings.bits21 (S2.of (bk BK1) (bk BK2)) (fun hHeld HT_ HW_ => ?_)
            refine tq 0 207 HT_ HW_ hHeld ?_
            refine tq 1 208 HT_ HW_ hHeld ?_
            refine gd 2 209 HT_ Try.func20 (impl_HullEdges.calls k tn tt hu _ A20.out) (fun w_ hb => hHeld.below hb) (fun w_ hb hHeld => ?_); replace HB := bs HB hb; replace BK1 := bw hb (bk BK1); replace BK2 := bw hb (bk BK2); clear hb
            refine gd 3 210 HT_ Try.func24 (impl_IsPlane.calls k tn tt hu true _ B24.out) (fun w_ hb => hHeld.below hb) (fun w_ hb hHeld => ?_); replace HB := bs HB hb; replace BK1 := bw hb (bk BK1); replace BK2 := bw hb (bk BK2); clear hb
            refine pu 4 211 HT_ ?_
            refine tq 5 212 HT_ HW_ hHeld ?_
            refine tq 6 213 HT_ HW_ hHeld ?_
            refine gd 7 214 HT_ Try.func22 (impl_FreeEdges.calls k tn tt fr _ A22.out) (fun w_ hb => hHeld.below hb) (fun w_ hb hHeld => ?_); replace HB := bs HB hb; replace BK1 := bw hb (bk BK1); replace BK2 := bw hb (bk BK2); clear hb
            refine gd 8 215 HT_ Try.func24 (impl_IsPlane.calls k tn tt fr true _ B25.out) (fun w_ hb => hHeld.below hb) (fun w_ hb hHeld => ?_); replace HB := bs HB hb; replace BK1 := bw hb (bk BK1); replace BK2 := bw hb (bk BK2); clear hb
            refine pu 9 216 HT_ ?_
            refine pu 10 2 HT_ ?_
            refine done_ (done_of HT_.out (by kernel_rfl)) ?_
            go_wp2
            go_ret
            exact ⟨rfl, bl HB⟩

end Go.Proofs.Ytmidcafamppkeaa.P
