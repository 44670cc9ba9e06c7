/- impl.chi.commuting: what a call of it computes. Conditions: a table of at most six elements, wires below 6. -/
import Derived.Test.YthibphndihjcaaaWAll2
import Derived.Test.YthibphndihjcaaaOWg
import Derived.Test.YthibphndihjcaaaOClone
import Derived.Test.YthibphndihjcaaaOTk
import Derived.Laws.CopyOwn
import Derived.WideKeyPair
import Derived.DeepKeys4
import Derived.Maps.Own
import Derived.Maps.OwnOps
import Derived.Maps.OwnSet
import Derived.Maps.Views
namespace Go.Proofs.Ythibphndihjcaaa.P
open Go.RowKit Go.Proofs.YthibphndihjcaaaW.PrintWords Go.Proofs.YthibphndihjcaaaW.PrintLast Go.Proofs.YthibphndihjcaaaW.PrintMore
set_option linter.unusedVariables false
set_option linter.unusedSimpArgs false

-- Words that printed texts beside this one need:
-- Kd.S_old Kd.R_old Kd.S_grown Kd.R_append_step Kd.S_lend Kd.H_widen Kd.H_grown Kd.H_back Kd.H_seg Kd.H_raw Kd.R_grown Kd.M_row Kd.R_store Kd.H_store Kd.S_elem Kd.H_below Kd.H_alloc Kd.H_step Kd.S_form Kd.S_make Kd.R_make Kd.S_kept Kd.R_kept Kd.S_make_step Kd.H_drew Kd.S_drew Kd.R_lit_step Kd.R_lit Kd.S_lit Kd.S_append Kd.R_append Kd.Q_append Kd.Q_reads Kd.Q_reads' Kd.Q_mono Kd.Q_drop Kd.R_zeros Kd.C_kept_own Kept.setCell Kd.H_far Kd.H_kept Kd.S_bound Kd.H_mono Kd.H_more Kd.S_seg Kd.S_reads Kd.S_get Kd.S_take Kd.R_take Kd.N_append Kd.S_new' Kd.S_apart' Kd.R_apart' Kd.S_types Kd.R_types Kd.R_after
/-- What is known: numbers of ways by the wires; the last told counts. -/
abbrev KM := List (List Int × Int)
def kmLook (M : KM) (ws : List Int) : Option Int := M.foldl (fun o p => if p.1 = ws then some p.2 else o) none
mutual
def cm.f : Nat → Nat → List Int → List Int → List Bool → KM → Option (Int × KM)
  | 0, _, _, _, _, _ => none
  | k + 1, n, l, ws, D, M => match kmLook M ws with
    | some v => some (v, M)
    | none => cm.l k n l ws D M 0 0 false
def cm.l : Nat → Nat → List Int → List Int → List Bool → KM → Nat → Int → Bool → Option (Int × KM)
  | 0, _, _, _, _, _, _, _, _ => none
  | k + 1, n, l, ws, D, M, p, out, left => if p < n - 1 then
      (if ws.getD p 0 > ws.getD (p + 1) 0 then cm.l k n l ws D M (p + 1) out left
       else if mayAll l D (ws.getD p 0) (ws.getD (p + 1) 0) n = true then (cm.f k n l (wgSwap ws p) (wgDone D ws p) M).bind fun r => cm.l k n l ws D r.2 (p + 1) (wrap64 (out + r.1)) true
       else cm.l k n l ws D M (p + 1) out true)
    else if M.length < 1000000000000 then some (if left = true then out else 1, M ++ [(ws, if left = true then out else 1)]) else none
end
theorem cm.mono_l : ∀ k, (∀ n l ws D M, LeO (cm.f k n l ws D M) (cm.f (k + 1) n l ws D M)) ∧ (∀ n l ws D M p o t, LeO (cm.l k n l ws D M p o t) (cm.l (k + 1) n l ws D M p o t))
  | 0 => ⟨fun _ _ _ _ _ r h => by simp [cm.f] at h, fun _ _ _ _ _ _ _ _ r h => by simp [cm.l] at h⟩
  | k + 1 => by
    obtain ⟨ih0, ih1⟩ := cm.mono_l k
    refine ⟨fun n l ws D M => ?_, fun n l ws D M p o t => ?_⟩
    · rw [cm.f, cm.f]
      cases kmLook M ws with
      | some v => exact LeO.refl _
      | none => exact ih1 _ _ _ _ _ _ _ _
    · rw [cm.l, cm.l]
      refine LeO.ite (LeO.ite (ih1 _ _ _ _ _ _ _ _) (LeO.ite (LeO.bind (ih0 _ _ _ _ _) (fun _ => ih1 _ _ _ _ _ _ _ _)) (ih1 _ _ _ _ _ _ _ _))) (LeO.refl _)
def wsOk (n : Nat) (ws : List Int) : Prop := ws.length = n ∧ ∀ x ∈ ws, 0 ≤ x ∧ x < 6
theorem wsOk_getD {n : Nat} {ws : List Int} (h : wsOk n ws) (i : Nat) (hi : i < n) : 0 ≤ ws.getD i 0 ∧ ws.getD i 0 < 6 := by
  refine h.2 _ ?_
  rw [List.getD_eq_getElem?_getD, List.getElem?_eq_getElem (by rw [h.1]; exact hi)]
  exact List.getElem_mem _
theorem wsOk_swap {n : Nat} {ws : List Int} (h : wsOk n ws) (p : Nat) (hp : p + 1 < n) : wsOk n (wgSwap ws p) := by
  refine ⟨by unfold wgSwap; rw [List.length_set, List.length_set]; exact h.1, fun x hx => ?_⟩
  unfold wgSwap at hx
  rcases List.mem_or_eq_of_mem_set hx with hx | rfl
  · rcases List.mem_or_eq_of_mem_set hx with hx | rfl
    · exact h.2 x hx
    · exact wsOk_getD h _ hp
  · exact wsOk_getD h _ (by omega)
def kmOk (n : Nat) (M : KM) : Prop := ∀ p ∈ M, wsOk n p.1
theorem cm_ok : ∀ (k n : Nat) (l : List Int), (∀ ws D M r M', wsOk n ws → kmOk n M → cm.f k n l ws D M = some (r, M') → kmOk n M') ∧ (∀ ws D M p o t r M', wsOk n ws → kmOk n M → cm.l k n l ws D M p o t = some (r, M') → kmOk n M') := by
  intro k
  induction k with
  | zero => exact fun n l => ⟨fun _ _ _ _ _ _ _ h => by simp [cm.f] at h, fun _ _ _ _ _ _ _ _ _ _ h => by simp [cm.l] at h⟩
  | succ k ih =>
    intro n l
    refine ⟨fun ws D M r M' hw hm h => ?_, fun ws D M p o t r M' hw hm h => ?_⟩
    · rw [cm.f] at h
      cases hk : kmLook M ws with
      | some v => rw [hk] at h; simp at h; rw [← h.2]; exact hm
      | none => rw [hk] at h; exact (ih n l).2 _ _ _ _ _ _ _ _ hw hm h
    · rw [cm.l] at h
      split at h
      · split at h
        · exact (ih n l).2 _ _ _ _ _ _ _ _ hw hm h
        · split at h
          · obtain ⟨⟨r1, M1⟩, h1, h2⟩ := Option.bind_eq_some_iff.mp h
            exact (ih n l).2 _ _ _ _ _ _ _ _ hw ((ih n l).1 _ _ _ _ _ (wsOk_swap hw p (by omega)) hm h1) h2
          · exact (ih n l).2 _ _ _ _ _ _ _ _ hw hm h
      · split at h
        · simp only [Option.some.injEq, Prod.mk.injEq] at h
          rw [← h.2]
          intro q hq
          rcases List.mem_append.mp hq with hq | hq
          · exact hm q hq
          · rw [List.mem_singleton.mp hq]; exact hw
        · exact absurd h (by simp)
/-- The wires as a key. -/
def kRow (ws : List Int) : List Int := ws ++ List.replicate (6 - ws.length) 0
def kVal (ws : List Int) : Value := .agg ((kRow ws).map (Value.int .i64)).toArray
def kLit (ws : List Int) : Lit := .string (keyBytes ((kRow ws).map (Lit.int .i64)))
theorem cmArr : WideMaps.ArrKey Try.prog 61 3 6 := ⟨Try.underlying61, by kernel_rfl, by kernel_rfl, by kernel_rfl⟩
theorem cmPos : 1 ≤ Try.prog.types.size := of_decide_eq_true (by kernel_rfl)
theorem cmSize : ∃ m, Try.prog.types.size = m + 1 := ⟨_, (Nat.sub_add_cancel cmPos).symm⟩
theorem keyOf6g {P : Program} {k e : TypeId} (A : WideMaps.ArrKey P k e 6) (he : P.underlying e = some (.int .i64)) (hsz : ∃ m, P.types.size = m + 1) (L : List Int) (hl : L.length = 6) (hw : ∀ x ∈ L, (Lit.int .i64 x).wf = true) : keyOf P k (.agg (L.map (Value.int .i64)).toArray) = some (.string (keyBytes (L.map (Lit.int .i64)))) := by
  match L, hl with
  | [a, b, c, d, e', f], _ =>
    have wa := hw a (by simp)
    have wb := hw b (by simp)
    have wc := hw c (by simp)
    have wd := hw d (by simp)
    have we := hw e' (by simp)
    have wf := hw f (by simp)
    have hkt := A.keyType hsz
    obtain ⟨m, hm⟩ := hsz
    unfold keyOf
    simp only [A.hu]
    rw [if_pos (by simp [hkt, Value.formed, A.hu, A.size]), hm]
    unfold Program.keyLits
    simp only [A.hu, Value.cells]
    rw [if_pos (by rw [A.size]; rfl), show List.range 6 = [0, 1, 2, 3, 4, 5] from rfl]
    simp only [List.mapM_cons, List.mapM_nil]
    simp [A.one, Program.keyLits, he, wa, wb, wc, wd, we, wf]
theorem keyOf6 (L : List Int) (hl : L.length = 6) (hw : ∀ x ∈ L, (Lit.int .i64 x).wf = true) : keyOf Try.prog 61 (.agg (L.map (Value.int .i64)).toArray) = some (.string (keyBytes (L.map (Lit.int .i64)))) := keyOf6g cmArr Try.underlying3 cmSize L hl hw
theorem kRow_len {n : Nat} {ws : List Int} (h : wsOk n ws) (h6 : n ≤ 6) : (kRow ws).length = 6 := by
  unfold kRow; rw [List.length_append, List.length_replicate, h.1]; omega
theorem kRow_wf {n : Nat} {ws : List Int} (h : wsOk n ws) : ∀ x ∈ kRow ws, (Lit.int .i64 x).wf = true := by
  have hz : ∀ x : Int, 0 ≤ x ∧ x < 6 → (Lit.int .i64 x).wf = true := fun x hx => by
    have := wrap64_wf x
    rwa [show wrap64 x = x by unfold wrap64; omega] at this
  intro x hx
  rcases List.mem_append.mp hx with hx | hx
  · exact hz x (h.2 x hx)
  · rw [(List.mem_replicate.mp hx).2]; exact hz 0 (by omega)
theorem kKey {n : Nat} {ws : List Int} (h : wsOk n ws) (h6 : n ≤ 6) : keyOf Try.prog 61 (kVal ws) = some (kLit ws) := keyOf6 (kRow ws) (kRow_len h h6) (kRow_wf h)
theorem cmLaid : laidOutB Try.prog = true := by kernel_rfl
theorem cmRow : (61 : TypeId) < Try.prog.types.size := of_decide_eq_true (by kernel_rfl)
theorem cmLaw : Go.Maps.Keyed Try.prog 61 := Go.Maps.Keyed.of_law (deep_law_laid cmLaid (m := 2) (by omega) cmRow (by kernel_rfl) (by rw [Try.underlying61]))
theorem kLit_inj {n : Nat} {v u : List Int} (hv : wsOk n v) (hu : wsOk n u) (h6 : n ≤ 6) (h : kLit v = kLit u) : v = u := by
  have h1 := kKey hv h6
  have h2 := kKey hu h6
  rw [h] at h1
  have h3 := cmLaw.inj h1 h2
  have h3' : ((kRow v).map (Value.int .i64)).toArray = ((kRow u).map (Value.int .i64)).toArray := Value.agg.inj h3
  have h4 : (kRow v).map (Value.int .i64) = (kRow u).map (Value.int .i64) := by simpa using congrArg Array.toList h3'
  have h5 : kRow v = kRow u := by
    have := congrArg (List.map (fun x => match x with | Value.int _ z => z | _ => 0)) h4
    simpa [List.map_map, Function.comp_def] using this
  unfold kRow at h5
  exact (List.append_inj h5 (by rw [hv.1, hu.1])).1
/-- The map, as it is read. -/
def kmMap (M : KM) : DataW Unit := M.foldl (fun m p => m.put (kLit p.1) (.lit (.int .i64 p.2))) (.map [])
theorem kmLook_snoc (M : KM) (p : List Int × Int) (ws : List Int) : kmLook (M ++ [p]) ws = if p.1 = ws then some p.2 else kmLook M ws := by simp [kmLook, List.foldl_append]
theorem kmMap_snoc (M : KM) (p : List Int × Int) : kmMap (M ++ [p]) = (kmMap M).put (kLit p.1) (.lit (.int .i64 p.2)) := by simp [kmMap, List.foldl_append]
theorem kmMap_is (M : KM) : Go.Maps.IsMap (kmMap M) := by
  have : ∀ (M : KM) (m : DataW Unit), Go.Maps.IsMap m → Go.Maps.IsMap (M.foldl (fun m p => m.put (kLit p.1) (.lit (.int .i64 p.2))) m) := by
    intro M
    induction M with
    | nil => intro m hm; exact hm
    | cons p M ih => intro m hm; exact ih _ (hm.put _ _)
  exact this M _ Go.Maps.isMap_empty
theorem km_read {n : Nat} {ws : List Int} (hw : wsOk n ws) (h6 : n ≤ 6) : ∀ (m : Nat) (M : KM), M.length = m → kmOk n M → (kmMap M).atKey (kLit ws) (.lit (.int .i64 0)) = .lit (.int .i64 ((kmLook M ws).getD 0)) ∧ Go.Maps.has (kmMap M) (kLit ws) = (kmLook M ws).isSome := by
  intro m
  induction m with
  | zero =>
    intro M hM _
    obtain rfl := List.eq_nil_of_length_eq_zero hM
    exact ⟨rfl, rfl⟩
  | succ m ih =>
    intro M hM hok
    have hne : M ≠ [] := fun h => by rw [h] at hM; simp at hM
    obtain ⟨G, p, rfl⟩ : ∃ G p, M = G ++ [p] := ⟨M.dropLast, M.getLast hne, (List.dropLast_concat_getLast hne).symm⟩
    have hG := ih G (by simpa using hM) (fun q hq => hok q (List.mem_append_left _ hq))
    rw [kmMap_snoc, kmLook_snoc]
    by_cases h : p.1 = ws
    · rw [if_pos h, h]
      exact ⟨Go.Maps.atKey_put_same (kmMap_is G) (show Go.WideAt.IsKeyLit (kLit ws) from trivial) _ _, Go.Maps.has_put_same (kmMap_is G) (show Go.WideAt.IsKeyLit (kLit ws) from trivial) _⟩
    · rw [if_neg h]
      have hk : kLit ws ≠ kLit p.1 := fun he => h (kLit_inj (hok p (by simp)) hw h6 he.symm)
      rw [Go.Maps.atKey_put_other hk, Go.Maps.has_put_other hk]
      exact hG
theorem cmZero (w : World) : (zeroValue 3).run Try.prog w = .ok (.int .i64 0) w := by kernel_rfl
theorem C_cells {w : World} {ad : Addr} {n : Nat} {xs : List Int} (h : (Kd.int .i64).C w (some ad) n xs) : ∀ j v, (xs.map (Value.int .i64))[j]? = some v → w.cell? (ad.add j) = some v := by
  intro j v hj
  rw [List.getElem?_map, Option.map_eq_some_iff] at hj
  obtain ⟨x, hx, rfl⟩ := hj
  have hlt := (List.getElem?_eq_some_iff.1 hx).1
  have hn : xs.length = n := h.1
  obtain ⟨ad', he, hc⟩ := Kd.at_int h (j : Int) (by omega) (by omega)
  cases he
  rw [Int.toNat_natCast] at hc
  rw [hc]
  congr 2
  simp [rd, List.getD_eq_getElem?_getD, hx]
theorem kRow_splice {n : Nat} {ws : List Int} (h : wsOk n ws) (h6 : n ≤ 6) : splice (List.replicate 6 (Value.int .i64 0)) 0 (ws.map (Value.int .i64)) = (kRow ws).map (Value.int .i64) := by
  unfold splice kRow
  rw [List.map_append, List.map_replicate, List.length_map, List.take_zero, List.nil_append, List.drop_replicate, Nat.zero_add]
theorem C_grown {w w' : World} {A : Option Addr} {n : Nat} {xs : List Int} {bm : Nat} {es : Array MapEntry} {c : Nat} (h : (Kd.int .i64).C w A n xs) (hg : w.grownBy w' (some bm)) (hm : w.heap[bm]? = some (.map es c)) : (Kd.int .i64).C w' A n xs := by
  obtain ⟨h1, h2, h3⟩ := h
  refine ⟨h1, h2, fun hp => ?_⟩
  obtain ⟨ad, ha, hc⟩ := h3 hp
  refine ⟨ad, ha, fun j p hj => ?_⟩
  obtain ⟨cs, e1, e2, e3⟩ := hc j p hj
  refine ⟨cs, e1, e2, fun i u hu => cell_grown (e3 i u hu) hg (fun he => ?_)⟩
  have h4 := e3 i u hu
  injection he with he
  unfold World.cell? at h4
  rw [he, hm] at h4
  simp at h4

theorem blk_grown {w w' : World} {g : Nat} {row : Nat} {o : Obj} (h : w.heap[g]? = some o) (hg : w.grownBy w' (some row)) (hne : g ≠ row) : w'.heap[g]? = some o := (hg.block g (Array.getElem?_eq_some_iff.1 h).1 (fun he => hne (Option.some.inj he))).trans h
theorem grown_far {w W w1 : World} {bm g : Nat} (h : w.grownBy W (some bm)) (hg : W.grownBy w1 (some g)) (hlt : w.heap.size ≤ g) : w.grownBy w1 (some bm) :=
  ⟨hg.os.trans h.os, hg.tape.trans h.tape, hg.output.trans h.output, Nat.le_trans h.size hg.size, fun i hi hne => (hg.block i (Nat.lt_of_lt_of_le hi h.size) (fun he => by have := Option.some.inj he; omega)).trans (h.block i hi hne)⟩
theorem cm_clone {n : Nat} {ws : List Int} (h : wsOk n ws) (h6 : n ≤ 6) : slices_Clone_int_int.f ws = some ws := by
  unfold slices_Clone_int_int.f; rw [if_pos (by rw [h.1]; omega)]
theorem cm_one {W : World} {base : Nat} {okp : Nat → Prop} {x : Int} {c : List Value} (h : c.length = (Kd.int .i64).sz) : (Kd.int .i64).M W base okp x (c.take 0 ++ [Value.int .i64 x] ++ c.drop (0 + [Value.int .i64 x].length)) := by
  match c, h with
  | [y], _ => rfl
theorem tbB_one (D : List Bool) : ∀ y ∈ (tbB D).toList, y.oneCell' = true := by
  intro y hy
  obtain ⟨b, _, rfl⟩ := List.mem_map.1 (show y ∈ D.map Value.bool from hy)
  rfl
theorem R_new {e base : Nat} {W w1 : World} {g g17 n c : Nat} {xs : List Int} (h : (Kd.int .i64).R e W base (fun _ => True) (.slice (some ⟨g17, 0, none⟩) n c) xs) (hg : W.grownBy w1 (some g)) (hne : g ≠ g17) : (Kd.int .i64).R e w1 base (fun _ => True) (.slice (some ⟨g17, 0, none⟩) n c) xs :=
  Kd.R_mono (Kd.R_grown (Kd.R_tight rfl h) hg (fun k hk he => hne (by have h1 : some k = some g17 := hk; rw [h1] at he; exact (Option.some.inj he).symm))) (fun _ _ => trivial)
theorem cm_swl {n : Nat} {ws : List Int} {p : Nat} (h : wsOk n ws) (h2 : wsOk n (wgSwap ws p)) : ws.length = (wgSwap ws p).length := by rw [h.1, h2.1]
theorem cm_next {W : World} {base : Nat} {g17 n c p : Nat} {z z1 xa xb : Int} {ws : List Int} (hs : wgSwap ws p = (ws.set p xb).set (p + 1) xa) (hz : z = (p : Int)) (hz1 : z1 = ((p + 1 : Nat) : Int)) (h : (Kd.int .i64).R 3 W base (fun _ => True) (.slice (some ⟨g17, 0, none⟩) n c) ((ws.set z.toNat xb).set z1.toNat xa)) : (Kd.int .i64).C W (some ⟨g17, 0, none⟩) (wgSwap ws p).length (wgSwap ws p) := by
  have := (Kd.R_reads' h).2.2
  rw [hz, hz1, Int.toNat_natCast, Int.toNat_natCast, ← hs] at this
  exact this
theorem cm_cap {W : World} {base : Nat} {g17 n c : Nat} {xs ws : List Int} {p : Nat} (h : (Kd.int .i64).R 3 W base (fun _ => True) (.slice (some ⟨g17, 0, none⟩) ws.length c) xs) (h1 : wsOk n ws) (h2 : wsOk n (wgSwap ws p)) : (wgSwap ws p).length ≤ c := by
  have := (Kd.R_reads' h).2.1
  rw [h2.1, ← h1.1]; exact this
section
variable {P : Program} {ops : Array Oper} {rest : List Oper} {o : Oper} {a : Act} {W : World} {Q : Exit → Act → World → Prop}
/-- An array is read whole. -/
theorem ld_blk (ty t : TypeId) (x : Operand) (cs : Array Value) {g : Nat} (hop : o.op = .load ty x) (hx : a.eval x = .pointer (some ⟨g, 0, none⟩)) (hb : W.heap[g]? = some (.cells cs t (0, 0))) {d : TypeDesc} (hu : P.underlying ty = some d)
    (hd : (match d with | .struct _ | .array _ _ => true | _ => false) = true) (hi : (P.info? ty).map (·.size) = some cs.size) (hgd : o.guard = none) (h : wpList P ops Q rest (a.put o.dst (.agg cs)) W) : wpList P ops Q (o :: rest) a W := by
  refine wpList_plain hgd fun K hK => ?_
  unfold Oper.wp
  rw [loadRow_run ty x hop g hx W (run_loadVar_row W g t ty cs (0, 0) d hb hu hd hi)]
  exact hK _ _ h
theorem vl (v : Value) (hrun : (execOp a.eval o).run P W = .ok (.value v) W) (hgd : o.guard = none) (h : wpList P ops Q rest (a.put o.dst v) W) : wpList P ops Q (o :: rest) a W := by
  refine wpList_plain hgd fun K hK => ?_
  unfold Oper.wp
  rw [hrun]
  exact hK _ _ h
theorem st_oneL {ty : TypeId} (p x : Operand) (hop : o.op = .store ty p x) {g q : Nat} {e : TypeId} {cs : Array Value} {u : Value} (haddr : a.eval p = .pointer (some ⟨g, q, none⟩)) (hx : a.eval x = u) (hh : W.heap[g]? = some (.cells cs e (0, 0))) (hu : u.cells.toList = [u]) (ht : (P.info? ty).map (·.size) = some 1) (hq : q < cs.size) (h1 : u.oneCell' = true) (hN : o.dst = none) (hgd : o.guard = none)
    (h : ∀ w1, w1.heap[g]? = some (.cells (cs.setIfInBounds q u) e (0, 0)) → W.grownBy w1 (some g) → wpList P ops Q rest a w1) : wpList P ops Q (o :: rest) a W := by
  obtain ⟨cur', h3, h4, h5⟩ := setCells_row [u] q W cs hh (by simp only [List.length_singleton]; omega)
  obtain ⟨s1, s2, s3, s4⟩ := setCells_same g [u] q W
  refine wpList_plain hgd fun K hK => ?_
  have hr := run_store_run (P := P) (o := q) ty u [u] hh hu ht (by simp only [List.length_singleton]; omega) (by intro y hy; rw [List.mem_singleton.mp hy]; exact h1)
  unfold Oper.wp execOp
  simp only [hop, haddr, hx, Sem.run_bind, Sem.run_pure, Result.andThen_ok, hr]
  show K (a.put o.dst undef) _
  rw [hN]
  refine hK a _ (h _ ?_ ⟨s1, s2, s3, by rw [s4]; exact Nat.le_refl _, fun k _ hk => setCells_far [u] _ k (fun he => hk (by rw [he]))⟩)
  rw [h3]
  congr 2
  apply Array.ext'
  rw [h5, Array.toList_setIfInBounds, List.set_eq_take_append_cons_drop, if_pos (by rw [Array.length_toList]; exact hq), List.append_assoc]
  rfl
end
def cm.T10 : Bool × List (List Nat × List Nat) := (true, [([], []), ([], []), ([0, 1], [0, 1]), ([2], [2]), ([], []), ([], []), ([5], [5]), ([4, 6], [4, 6]), ([7], [7]), ([3, 0, 1, 2, 3], [3]), ([8, 9, 0, 1, 2, 3, 4, 5, 6, 7, 8, 9], [8])])
def cm.B10 : List Nat := [0, 0, 3, 7, 0, 0, 32, 112, 240, 15, 1023]
theorem cm.tab10 : rtab .any (opsOf Try.f71 10) = cm.T10 := by kernel_rfl
theorem cm.bits10 : waitsOk cm.T10.2 cm.B10 = true := by kernel_rfl
set_option maxHeartbeats 8000000 in
set_option maxRecDepth 100000 in
theorem impl_chi_commuting.calls (k : Nat) : ∀ (A0 : Option Addr) (l : List Int) (n : Nat) (ws : List Int) (A1 : Option Addr) (c1 : Nat) (D : List Bool) (bm : Nat) (M : KM) (r : Int) (M' : KM) (w : World), (Kd.int .i64).C w A0 l.length l → 344 ≤ l.length → rd l 0 = (n : Int) → 3 ≤ n → n ≤ 6 → (Kd.int .i64).C w A1 ws.length ws → ws.length ≤ c1 → wsOk n ws → D.length = 36 → kmOk n M →
    w.ownsMap Try.prog 61 (plainElem Try.prog 3) bm M.length (kmMap M) → cm.f k n l ws D M = some (r, M') →
    Calls Try.prog 71 #[.pointer A0, .slice A1 ws.length c1, .agg (tbB D), .map (some bm)] w fun e w' => e = .returned (.int .i64 r) ∧ w'.ownsMap Try.prog 61 (plainElem Try.prog 3) bm M'.length (kmMap M') ∧ w.grownBy w' (some bm) := by
  induction k using Nat.strongRecOn with
  | ind k ih =>
  intro A0 l n ws A1 c1 D bm M r M' w hC hl hn h3 h6 hC1 hc1 hws hD hok hown h
  cases k with
  | zero => simp [cm.f] at h
  | succ k0 =>
  have IH := Aside0.mk ih
  clear ih
  have HC := Aside0.mk hC
  have HL := Aside0.mk hl
  have HN := Aside0.mk hn
  have H6 := Aside0.mk (And.intro h3 h6)
  have HC1 := Aside0.mk hC1
  have HCC := Aside0.mk hc1
  have HW := Aside0.mk hws
  have HD := Aside0.mk hD
  have HOK := Aside0.mk hok
  have HM := Aside0.mk hown
  obtain ⟨es0, clock0, hmb, _⟩ := id hown
  have HMB := Aside0.mk hmb
  obtain ⟨ad, he, hx0⟩ := Kd.at_int hC 0 (by omega) (by omega)
  subst he
  rw [show ((0 : Int)).toNat = 0 from rfl, Addr.add_zero', hn] at hx0
  have HX0 := Aside0.mk hx0
  have hl1 : ws.length = n := hws.1
  obtain ⟨ad1, he1, _⟩ := Kd.at_int hC1 0 (by omega) (by omega)
  subst he1
  have HR := Aside0.mk (km_read hws h6 M.length M rfl hok)
  have HKEY := Aside0.mk (kKey hws h6)
  rw [cm.f] at h
  have HB := Aside0.mk (Below.refl w.heap.size w)
  clear hC hl hn h3 h6 hC1 hc1 hws hD hok hown hmb hl1
  cases hk : kmLook M ws with
  | some v =>
    rw [hk] at h
    simp only [Option.some.injEq, Prod.mk.injEq] at h
    obtain ⟨rfl, rfl⟩ := h
    have HK := Aside0.mk hk
    clear hk hx0
    go_enter Try.func71, Try.ntmps71
    go_wp2_with (first
      | ((with_reducible refine gate_dst (N := 6) rfl ?_); refine bx 6 (tbB D) 84 ?_; intro g6 hg w6 hbox hb; have BK6 := Aside0.mk hbox; have HG6 := Aside0.mk hg; have HB6 := Aside0.mk (below_step HB.out hb); clear hbox hg hb HB)
      | ((with_reducible refine gate_builtin (b := .copy) (xs := #[.tmp 20, .tmp 21]) rfl ?_); refine wpList_copy_splice rfl (.tmp 20) (.tmp 21) 22 22 rfl 3 Try.underlying22 (by kernel_rfl) (some ⟨w6.heap.size, 0, none⟩) (some ad1) 6 6 ws.length c1 rfl rfl w6.heap.size 0 (List.replicate 6 (.int .i64 0)) 61 (heap_alloc_new w6 _) (ws.map (Value.int .i64)) (by rw [List.length_map, HW.out.1]; exact (Nat.min_eq_left H6.out.2).symm) (fun _ => ⟨rfl, ad1, rfl, C_cells (Kd.C_alloc (Kd.C_below HC1.out HB6.out) _)⟩) (by rw [List.length_map, HW.out.1, List.length_replicate]; have := H6.out.2; omega) (fun v hv => by obtain ⟨x, _, rfl⟩ := List.mem_map.1 hv; rfl) w6.heap.size w6 (below_alloc (Below.refl _ _) _) (Nat.le_refl _) ?_; intro w7 hk7 hb7; have BK9 := Aside0.mk (show w7.heap[w6.heap.size]? = some (.cells ((kRow ws).map (Value.int .i64)).toArray 61 (0, 0)) from by have h7 : w7.heap[w6.heap.size]? = _ := hk7; rw [h7, kRow_splice HW.out H6.out.2]); have n0_ := Aside0.mk (blk_below BK6.out hb7); have HB7 := Aside0.mk (below_then HB6.out HB6.out.size hb7); clear hk7 hb7 BK6; have BK6 := n0_; clear n0_; have HM7 := Aside0.mk (World.ownsMap.kept HM.out (grown_of_below HB7.out none) (by simp)))
      | ((with_reducible refine gate_dst (N := 25) rfl ?_); refine ld_blk 61 61 (.tmp 9) ((kRow ws).map (Value.int .i64)).toArray rfl rfl BK9.out Try.underlying61 rfl (by rw [List.size_toArray, List.length_map, kRow_len HW.out H6.out.2]; kernel_rfl) rfl ?_)
      | (at_lookup; refine wpList_lookup_own_ok_int _ rfl (.tmp 24) (.tmp 25) 85 rfl 61 3 .i64 cmLaw Try.underlying85 Try.underlying3 (cmZero _) bm M.length (kmMap M) rfl HM7.out (kVal ws) _ rfl HKEY.out ?_; intro c hc hwc; rw [HR.out.1, HK.out] at hc; obtain rfl : v = c := (by injection hc with hc; injection hc); rw [HR.out.2, HK.out]; clear hc hwc))
    go_ret
    exact ⟨rfl, HM7.out, grown_of_below HB7.out _⟩
  | none =>
    rw [hk] at h
    have HK := Aside0.mk hk
    have H' := Aside0.mk h
    clear hk h hx0
    go_enter Try.func71, Try.ntmps71
    go_wp2_with (first
      | ((with_reducible refine gate_dst (N := 6) rfl ?_); refine bx 6 (tbB D) 84 ?_; intro g6 hg w6 hbox hb; have BK6 := Aside0.mk hbox; have HG6 := Aside0.mk hg; have HB6 := Aside0.mk (below_step HB.out hb); clear hbox hg hb HB)
      | ((with_reducible refine gate_builtin (b := .copy) (xs := #[.tmp 20, .tmp 21]) rfl ?_); refine wpList_copy_splice rfl (.tmp 20) (.tmp 21) 22 22 rfl 3 Try.underlying22 (by kernel_rfl) (some ⟨w6.heap.size, 0, none⟩) (some ad1) 6 6 ws.length c1 rfl rfl w6.heap.size 0 (List.replicate 6 (.int .i64 0)) 61 (heap_alloc_new w6 _) (ws.map (Value.int .i64)) (by rw [List.length_map, HW.out.1]; exact (Nat.min_eq_left H6.out.2).symm) (fun _ => ⟨rfl, ad1, rfl, C_cells (Kd.C_alloc (Kd.C_below HC1.out HB6.out) _)⟩) (by rw [List.length_map, HW.out.1, List.length_replicate]; have := H6.out.2; omega) (fun v hv => by obtain ⟨x, _, rfl⟩ := List.mem_map.1 hv; rfl) w6.heap.size w6 (below_alloc (Below.refl _ _) _) (Nat.le_refl _) ?_; intro w7 hk7 hb7; have BK9 := Aside0.mk (show w7.heap[w6.heap.size]? = some (.cells ((kRow ws).map (Value.int .i64)).toArray 61 (0, 0)) from by have h7 : w7.heap[w6.heap.size]? = _ := hk7; rw [h7, kRow_splice HW.out H6.out.2]); have n0_ := Aside0.mk (blk_below BK6.out hb7); have HB7 := Aside0.mk (below_then HB6.out HB6.out.size hb7); clear hk7 hb7 BK6; have BK6 := n0_; clear n0_; have HM7 := Aside0.mk (World.ownsMap.kept HM.out (grown_of_below HB7.out none) (by simp)))
      | ((with_reducible refine gate_dst (N := 25) rfl ?_); refine ld_blk 61 61 (.tmp 9) ((kRow ws).map (Value.int .i64)).toArray rfl rfl BK9.out Try.underlying61 rfl (by rw [List.size_toArray, List.length_map, kRow_len HW.out H6.out.2]; kernel_rfl) rfl ?_)
      | (at_lookup; refine wpList_lookup_own_ok_int _ rfl (.tmp 24) (.tmp 25) 85 rfl 61 3 .i64 cmLaw Try.underlying85 Try.underlying3 (cmZero _) bm M.length (kmMap M) rfl HM7.out (kVal ws) _ rfl HKEY.out ?_; intro c hc hwc; rw [HR.out.2, HK.out]; clear hc hwc))
    obtain ⟨N, hN⟩ : ∃ z : Int, (n : Int) = z := ⟨_, rfl⟩
    rw [hN] at HX0
    have HNN := Aside0.mk hN
    obtain ⟨g9, hg9⟩ : ∃ z, z = w6.heap.size := ⟨_, rfl⟩
    rw [← hg9] at BK9 ⊢
    have HG9 := Aside0.mk (show g6 ≠ bm ∧ g9 ≠ bm ∧ w.heap.size ≤ g6 ∧ w.heap.size ≤ g9 from by have h1 := HM.out.lt; have h2 := HB6.out.size; have h3 := HG6.out; refine ⟨?_, ?_, ?_, ?_⟩ <;> omega)
    have HGR := Aside0.mk (grown_of_below HB7.out (some bm))
    clear hN hg9 HB7 HB6
    go_loopg [12, 13, 14] k0 (fun kq v12 v13 v14 w' => ∃ (M1 : KM) (p : Nat) (out : Int) (left : Bool), v12 = .int .i64 out ∧ v13 = .bool left ∧ v14 = .int .i64 p ∧ Aside0 (cm.l kq n l ws D M1 p out left = some (r, M')) ∧ Aside0 (kq ≤ k0) ∧ Aside0 (p ≤ 6 ∧ (Lit.int .i64 out).wf = true) ∧ Aside0 (kmOk n M1) ∧ Aside0 (w'.ownsMap Try.prog 61 (plainElem Try.prog 3) bm M1.length (kmMap M1)) ∧ Aside0 (w'.heap[g6]? = some (.cells (tbB D) 84 (0, 0))) ∧ Aside0 (w'.heap[g9]? = some (.cells ((kRow ws).map (Value.int .i64)).toArray 61 (0, 0))) ∧ Aside0 (w.grownBy w' (some bm)))
    case atStart => exact ⟨M, 0, 0, false, rfl, rfl, rfl, H', ⟨Nat.le_refl _⟩, ⟨by omega, rfl⟩, HOK, HM7, BK6, BK9, HGR⟩
    case round =>
      clear H' HM7 BK6 BK9 HGR
      obtain ⟨M1, p, out, left, rfl, rfl, rfl, HA, HK1, HP6, HOK1, HM1, BK6, BK9, HGR⟩ := hrel
      have HOW := Aside0.mk HP6.out.2
      have HCl := Aside0.mk (C_grown HC.out HGR.out HMB.out)
      have HCw := Aside0.mk (C_grown HC1.out HGR.out HMB.out)
      cases gk with
      | zero => exact absurd HA.out (by simp [cm.l])
      | succ k1 =>
        have H := HA.out
        clear HA
        rw [cm.l] at H
        have hx : wr.cell? ad = some (.int .i64 N) := by
          obtain ⟨ad', he, hx0⟩ := Kd.at_int HCl.out 0 (by omega) (by have := HL.out; omega)
          cases he
          rwa [show ((0 : Int)).toNat = 0 from rfl, Addr.add_zero', HN.out, HNN.out] at hx0
        have h6' := H6.out
        have hn1 : wrap64 (N - 1) = ((n - 1 : Nat) : Int) := by rw [← HNN.out]; unfold wrap64; omega
        have HP1 := Aside0.mk (w_succM p (by have := HP6.out.1; omega))
        obtain ⟨z, hz⟩ : ∃ z : Int, (p : Int) = z := ⟨_, rfl⟩
        obtain ⟨z1, hzz1⟩ : ∃ z : Int, ((p + 1 : Nat) : Int) = z := ⟨_, rfl⟩
        obtain ⟨N1, hN1⟩ : ∃ y : Int, ((n - 1 : Nat) : Int) = y := ⟨_, rfl⟩
        rw [hN1] at hn1
        rw [hz, hzz1] at HP1
        rw [hz]
        have hp1 := HP1.out
        clear HP1
        by_cases c3 : p < n - 1
        case neg =>
          rw [if_neg c3] at H
          have hd : decide (z < N1) = false := decide_eq_false (by omega)
          by_cases c4 : M1.length < 1000000000000
          case neg => rw [if_neg c4] at H; exact absurd H (by simp)
          rw [if_pos c4] at H
          have HML := Aside0.mk c4
          simp only [Option.some.injEq, Prod.mk.injEq] at H
          obtain ⟨hr1, hr2⟩ := H
          rw [hr1] at hr2
          have HR1 := Aside0.mk hr1
          have HR2 := Aside0.mk hr2
          clear c3 c4 hz hzz1 hN1 h6' HR1 HR2
          cases left with
          | true =>
            simp only [if_true] at hr1 hr2
            subst hr1
            have HR2 := Aside0.mk hr2
            clear hr2
            go_wp2_with (first | ((with_reducible refine gate_dst (N := 83) rfl ?_); refine ld_blk 61 61 (.tmp 9) ((kRow ws).map (Value.int .i64)).toArray rfl rfl BK9.out Try.underlying61 rfl (by rw [List.size_toArray, List.length_map, kRow_len HW.out H6.out.2]; kernel_rfl) rfl ?_) | (at_mapUpdate; refine wpList_mapUpdate_own _ rfl (.tmp 82) (.tmp 83) (.tmp 84) 85 rfl 61 3 cmLaw Try.underlying85 _ bm M1.length (kmMap M1) rfl HM1.out (by have := HML.out; unfold maxLen; omega) (kVal ws) _ (kLit ws) rfl rfl HKEY.out (.lit (.int .i64 _)) [] (plainElem_int Try.underlying3 ?hwf) ?_; (case hwf => first | exact HOW.out | rfl | decide); intro w9 hm9 hg9_; have HM9 := Aside0.mk hm9; have HGR9 := Aside0.mk (World.grownBy.trans HGR.out hg9_); clear hm9 hg9_))
            go_ret
            exact ⟨rfl, by rw [← HR2.out, kmMap_snoc, List.length_append]; exact HM9.out, HGR9.out⟩
          | false =>
            simp only [Bool.false_eq_true, if_false] at hr1 hr2
            subst hr1
            have HR2 := Aside0.mk hr2
            clear hr2
            go_wp2_with (first | ((with_reducible refine gate_dst (N := 83) rfl ?_); refine ld_blk 61 61 (.tmp 9) ((kRow ws).map (Value.int .i64)).toArray rfl rfl BK9.out Try.underlying61 rfl (by rw [List.size_toArray, List.length_map, kRow_len HW.out H6.out.2]; kernel_rfl) rfl ?_) | (at_mapUpdate; refine wpList_mapUpdate_own _ rfl (.tmp 82) (.tmp 83) (.tmp 84) 85 rfl 61 3 cmLaw Try.underlying85 _ bm M1.length (kmMap M1) rfl HM1.out (by have := HML.out; unfold maxLen; omega) (kVal ws) _ (kLit ws) rfl rfl HKEY.out (.lit (.int .i64 _)) [] (plainElem_int Try.underlying3 ?hwf) ?_; (case hwf => first | exact HOW.out | rfl | decide); intro w9 hm9 hg9_; have HM9 := Aside0.mk hm9; have HGR9 := Aside0.mk (World.grownBy.trans HGR.out hg9_); clear hm9 hg9_))
            go_ret
            exact ⟨rfl, by rw [← HR2.out, kmMap_snoc, List.length_append]; exact HM9.out, HGR9.out⟩
        case pos =>
          rw [if_pos c3] at H
          have hd : decide (z < N1) = true := decide_eq_true (by omega)
          have hl1 := HW.out.1
          have hz0 : 0 ≤ z := by omega
          have hz1 : z < (ws.length : Int) := by omega
          have hy0 : 0 ≤ z1 := by omega
          have hy1 : z1 < (ws.length : Int) := by omega
          obtain ⟨ada, ea, hca⟩ := Kd.at_int HCw.out z hz0 hz1
          cases ea
          obtain ⟨adb, eb, hcb⟩ := Kd.at_int HCw.out z1 hy0 hy1
          cases eb
          rw [show rd ws z = ws.getD p 0 from by rw [← hz]; simp [rd]] at hca
          rw [show rd ws z1 = ws.getD (p + 1) 0 from by rw [← hzz1]; simp [rd]] at hcb
          have HXA := Aside0.mk (wsOk_getD HW.out p (by omega))
          have HXB := Aside0.mk (wsOk_getD HW.out (p + 1) (by omega))
          have HSW := Aside0.mk (wsOk_swap HW.out p (by omega))
          have HSd := Aside0.mk (show wgSwap ws p = (ws.set p (ws.getD (p + 1) 0)).set (p + 1) (ws.getD p 0) from rfl)
          have HDd := Aside0.mk (show wgDone D ws p = D.set ((ws.getD p 0).toNat * 6 + (ws.getD (p + 1) 0).toNat) true from rfl)
          obtain ⟨xa, hxa⟩ : ∃ y, ws.getD p 0 = y := ⟨_, rfl⟩
          obtain ⟨xb, hxb⟩ : ∃ y, ws.getD (p + 1) 0 = y := ⟨_, rfl⟩
          rw [hxa] at hca HXA H HSd HDd
          rw [hxb] at hcb HXB H HSd HDd
          have HZ := Aside0.mk (And.intro hz.symm (And.intro hzz1.symm (And.intro c3 (And.intro hz0 hz1))))
          have HY := Aside0.mk (And.intro hy0 hy1)
          have k0 := eq_true hz0
          have k1' := eq_true hz1
          have k2 := eq_true hy0
          have k3 := eq_true hy1
          have HBd := Aside0.mk (below_drew (Below.refl wr.heap.size wr))
          have HM2 := Aside0.mk (World.ownsMap.kept HM1.out (grown_of_below HBd.out none) (by simp))
          have BK62 := Aside0.mk (blk_below BK6.out HBd.out)
          have BK92 := Aside0.mk (blk_below BK9.out HBd.out)
          have HGR2 := Aside0.mk (World.grownBy.trans HGR.out (grown_of_below HBd.out (some bm)))
          have HCl2 := Aside0.mk (Kd.C_drew HCl.out)
          have HCw2 := Aside0.mk (Kd.C_drew HCw.out)
          clear hz hzz1 hN1 h6' c3 hl1 hz0 hz1 hy0 hy1 hxa hxb HM1 BK6 BK9 HGR HCl HCw
          by_cases cgt : xa > xb
          case pos =>
            rw [if_pos cgt] at H
            have H' := Aside0.mk H
            have cg : decide (xa > xb) = true := decide_eq_true cgt
            clear H cgt
            go_wp2
            refine start_ (n := 11) (S := fun w' => w'.cell? (ad1.add z.toNat) = some (.int .i64 xa) ∧ w'.cell? (ad1.add z1.toNat) = some (.int .i64 xb)) (ds := []) #[false, false, false, false, false, false, false, false, false, false, false] (by kernel_rfl) rfl rfl ⟨hca, hcb⟩ (fun hHeld => ?_); refine with_tabW cm.tab10 cm.bits10 (fun HT_ HW_ => ?_); refine pu 0 40 HT_ ?_; refine pu 1 41 HT_ ?_; refine pu 2 42 HT_ ?_; refine pu 4 44 HT_ ?_; refine pu 5 45 HT_ ?_; refine pu 6 46 HT_ ?_; refine pu 7 47 HT_ ?_; refine tk 3 43 HT_ HW_ hHeld ?_; refine tk 8 48 HT_ HW_ hHeld ?_; refine pu 9 15 HT_ ?_; refine pu 10 16 HT_ ?_; refine done_ (done_of HT_.out (by kernel_rfl)) ?_
            go_wp2
            go_roundg k1
            case measure => have := HK1.out; omega
            case rel => exact ⟨M1, p + 1, out, left, rfl, rfl, congrArg (Value.int .i64) (hp1.trans HZ.out.2.1), H', ⟨by have := HK1.out; omega⟩, ⟨by have h1 := HZ.out.2.2.1; have h2 := H6.out; omega, HOW.out⟩, HOK1, HM2, BK62, BK92, HGR2⟩
          case neg =>
            rw [if_neg cgt] at H
            have cg : decide (xa > xb) = false := decide_eq_false cgt
            clear cgt
            cases hmay : mayAll l D xa xb n with
            | false =>
              have HMAY := Aside0.mk hmay
              rw [hmay, if_neg (by simp)] at H
              have H' := Aside0.mk H
              clear H hmay
              go_wp2
              refine start_ (n := 11) (S := fun w' => w'.cell? (ad1.add z.toNat) = some (.int .i64 xa) ∧ w'.cell? (ad1.add z1.toNat) = some (.int .i64 xb)) (ds := []) #[false, false, false, false, false, false, false, false, false, false, false] (by kernel_rfl) rfl rfl ⟨hca, hcb⟩ (fun hHeld => ?_); refine with_tabW cm.tab10 cm.bits10 (fun HT_ HW_ => ?_); refine pu 0 40 HT_ ?_; refine pu 1 41 HT_ ?_; refine pu 2 42 HT_ ?_; refine pu 4 44 HT_ ?_; refine pu 5 45 HT_ ?_; refine pu 6 46 HT_ ?_; refine pu 7 47 HT_ ?_; refine tk 3 43 HT_ HW_ hHeld ?_; refine tk 8 48 HT_ HW_ hHeld ?_; refine pu 9 15 HT_ ?_; refine pu 10 16 HT_ ?_; refine done_ (done_of HT_.out (by kernel_rfl)) ?_
              go_wp2_with (first | ((with_reducible refine gate_dst (N := 53) rfl ?_); refine ld_blk 84 84 (.tmp 6) (tbB D) rfl rfl BK62.out Try.underlying84 rfl (by rw [tbB_size, HD.out]; kernel_rfl) rfl ?_) | (go_at_call 87; (with_reducible refine (impl_chi_mayExchange.calls (some ad) l D n xa xb _ HCl2.out HL.out HN.out H6.out.2 HXA.out HXB.out HD.out).mono ?_); rintro e w8 ⟨he, hb⟩; rw [HMAY.out] at he; subst he; have HM3 := Aside0.mk (World.ownsMap.kept HM2.out (grown_of_below hb none) (by simp)); have BK63 := Aside0.mk (blk_below BK62.out hb); have BK93 := Aside0.mk (blk_below BK92.out hb); have HGR3 := Aside0.mk (World.grownBy.trans HGR2.out (grown_of_below hb (some bm))); have HCw3 := Aside0.mk (Kd.C_below HCw2.out hb); have HCl3 := Aside0.mk (Kd.C_below HCl2.out hb); clear HM2 BK62 BK92 HGR2 HCw2 HCl2 hb))
              go_roundg k1
              case measure => have := HK1.out; omega
              case rel => exact ⟨M1, p + 1, out, true, rfl, rfl, congrArg (Value.int .i64) (hp1.trans HZ.out.2.1), H', ⟨by have := HK1.out; omega⟩, ⟨by have h1 := HZ.out.2.2.1; have h2 := H6.out; omega, HOW.out⟩, HOK1, HM3, BK63, BK93, HGR3⟩
            | true =>
              have HMAY := Aside0.mk hmay
              rw [hmay, if_pos rfl] at H
              clear hmay
              replace H := Option.bind_eq_some_iff.mp H
              obtain ⟨⟨r1, M2⟩, A5, H⟩ := H
              simp only at H
              have A5' := Aside0.mk A5
              have H' := Aside0.mk H
              have HOK2 := Aside0.mk ((cm_ok k1 n l).1 _ _ _ _ _ HSW.out HOK1.out A5)
              have x0 := eq_true HXA.out.1
              have x1 := eq_true HXA.out.2
              have x2 := eq_true HXB.out.1
              have x3 := eq_true HXB.out.2
              clear H A5
              go_wp2
              refine start_ (n := 11) (S := fun w' => w'.cell? (ad1.add z.toNat) = some (.int .i64 xa) ∧ w'.cell? (ad1.add z1.toNat) = some (.int .i64 xb)) (ds := []) #[false, false, false, false, false, false, false, false, false, false, false] (by kernel_rfl) rfl rfl ⟨hca, hcb⟩ (fun hHeld => ?_); refine with_tabW cm.tab10 cm.bits10 (fun HT_ HW_ => ?_); refine pu 0 40 HT_ ?_; refine pu 1 41 HT_ ?_; refine pu 2 42 HT_ ?_; refine pu 4 44 HT_ ?_; refine pu 5 45 HT_ ?_; refine pu 6 46 HT_ ?_; refine pu 7 47 HT_ ?_; refine tk 3 43 HT_ HW_ hHeld ?_; refine tk 8 48 HT_ HW_ hHeld ?_; refine pu 9 15 HT_ ?_; refine pu 10 16 HT_ ?_; refine done_ (done_of HT_.out (by kernel_rfl)) ?_
              go_wp2_with (first | ((with_reducible refine gate_dst (N := 53) rfl ?_); refine ld_blk 84 84 (.tmp 6) (tbB D) rfl rfl BK62.out Try.underlying84 rfl (by rw [tbB_size, HD.out]; kernel_rfl) rfl ?_) | (go_at_call 87; (with_reducible refine (impl_chi_mayExchange.calls (some ad) l D n xa xb _ HCl2.out HL.out HN.out H6.out.2 HXA.out HXB.out HD.out).mono ?_); rintro e w8 ⟨he, hb⟩; rw [HMAY.out] at he; subst he; have HM3 := Aside0.mk (World.ownsMap.kept HM2.out (grown_of_below hb none) (by simp)); have BK63 := Aside0.mk (blk_below BK62.out hb); have BK93 := Aside0.mk (blk_below BK92.out hb); have HGR3 := Aside0.mk (World.grownBy.trans HGR2.out (grown_of_below hb (some bm))); have HCw3 := Aside0.mk (Kd.C_below HCw2.out hb); have HCl3 := Aside0.mk (Kd.C_below HCl2.out hb); clear HM2 BK62 BK92 HGR2 HCw2 HCl2 hb) | (go_at_call 88; (with_reducible refine (slices_Clone_int_int.calls (some ad1) c1 ws ws _ HCw3.out HCC.out (cm_clone HW.out H6.out.2)).mono ?_); rintro e w10 ⟨v17, rfl, ho, hb⟩; obtain ⟨g17, c17, rfl, hg17, _, _⟩ := Kd.R_form ho (by rw [HW.out.1]; have := H6.out.1; omega); have NE17 := Aside0.mk (show g17 ≠ bm ∧ g17 ≠ g6 ∧ g17 ≠ g9 ∧ w.heap.size ≤ g17 from by have h1 := HM3.out.lt; have h2 := blk_lt BK63.out; have h3 := blk_lt BK93.out; have h4 := HGR3.out.size; refine ⟨?_, ?_, ?_, ?_⟩ <;> omega); have HR17 := Aside0.mk ho; have m0_ := Aside0.mk (World.ownsMap.kept HM3.out (grown_of_below hb none) (by simp)); have m1_ := Aside0.mk (blk_below BK63.out hb); have m2_ := Aside0.mk (blk_below BK93.out hb); have m3_ := Aside0.mk (World.grownBy.trans HGR3.out (grown_of_below hb (some bm))); clear HM3 BK63 BK93 HGR3; have HM3 := m0_; have BK63 := m1_; have BK93 := m2_; have HGR3 := m3_; clear m0_ m1_ m2_ m3_; clear ho hg17 hb HCw3) | ((with_reducible refine gate_store (t := 3) (p := 66) rfl ?_); obtain ⟨c, hc1, _, hc2, _⟩ := Kd.R_elem HR17.out 0 z HZ.out.2.2.2.1 HZ.out.2.2.2.2; refine st_rowL (Kd.int .i64) rfl rfl 3 (.tmp 66) (.tmp 64) rfl z 0 xb (okp := fun _ => False) rfl (by simp [show (Kd.int .i64).sz = 1 from rfl]) rfl rfl (by kernel_rfl) (fun y hy => by rw [List.mem_singleton.mp hy]; rfl) HR17.out HZ.out.2.2.2.1 HZ.out.2.2.2.2 hc1 hc2 (by exact Nat.le_refl _) (cm_one hc1) (fun _ h => h.elim) ?_; intro w11 ho hg; have NEX := NE17.out; clear HR17; have HR17 := Aside0.mk ho; have m0_ := Aside0.mk (World.ownsMap.kept HM3.out hg (fun he => NEX.1 (Option.some.inj he).symm)); have m1_ := Aside0.mk (blk_grown BK63.out hg (fun he => NEX.2.1 he.symm)); have m2_ := Aside0.mk (blk_grown BK93.out hg (fun he => NEX.2.2.1 he.symm)); have m3_ := Aside0.mk (grown_far HGR3.out hg NEX.2.2.2); clear HM3 BK63 BK93 HGR3; have HM3 := m0_; have BK63 := m1_; have BK93 := m2_; have HGR3 := m3_; clear m0_ m1_ m2_ m3_; clear ho hg hc1 hc2 NEX) | ((with_reducible refine gate_store (t := 3) (p := 67) rfl ?_); obtain ⟨c, hc1, _, hc2, _⟩ := Kd.R_elem HR17.out 0 z1 HY.out.1 HY.out.2; refine st_rowL (Kd.int .i64) rfl rfl 3 (.tmp 67) (.tmp 65) rfl z1 0 xa (okp := fun _ => False) rfl (by simp [show (Kd.int .i64).sz = 1 from rfl]) rfl rfl (by kernel_rfl) (fun y hy => by rw [List.mem_singleton.mp hy]; rfl) HR17.out HY.out.1 HY.out.2 hc1 hc2 (by exact Nat.le_refl _) (cm_one hc1) (fun _ h => h.elim) ?_; intro w12 ho hg; have NEX := NE17.out; clear HR17; have HR17 := Aside0.mk ho; have m0_ := Aside0.mk (World.ownsMap.kept HM3.out hg (fun he => NEX.1 (Option.some.inj he).symm)); have m1_ := Aside0.mk (blk_grown BK63.out hg (fun he => NEX.2.1 he.symm)); have m2_ := Aside0.mk (blk_grown BK93.out hg (fun he => NEX.2.2.1 he.symm)); have m3_ := Aside0.mk (grown_far HGR3.out hg NEX.2.2.2); clear HM3 BK63 BK93 HGR3; have HM3 := m0_; have BK63 := m1_; have BK93 := m2_; have HGR3 := m3_; clear m0_ m1_ m2_ m3_; clear ho hg hc1 hc2 NEX) | ((with_reducible refine gate_dst (N := 68) rfl ?_); refine ld_blk 84 84 (.tmp 6) (tbB D) rfl rfl BK63.out Try.underlying84 rfl (by rw [tbB_size, HD.out]; kernel_rfl) rfl ?_) | ((with_reducible refine gate_dst (N := 18) rfl ?_); refine bx 18 (tbB (List.replicate 36 false)) 84 ?_; intro g18 hg18 w13 hbox hb; have BK18 := Aside0.mk hbox; have NE18 := Aside0.mk (show (g18 ≠ bm ∧ g18 ≠ g6 ∧ g18 ≠ g9 ∧ w.heap.size ≤ g18) ∧ g18 ≠ g17 from by have h1 := HM3.out.lt; have h2 := blk_lt BK63.out; have h3 := blk_lt BK93.out; have h4 := HGR3.out.size; have h5 := ((Kd.R_bound HR17.out).1 g17 rfl).2.2.1; refine ⟨⟨?_, ?_, ?_, ?_⟩, ?_⟩ <;> omega); have n4_ := Aside0.mk (Kd.R_below HR17.out hb); clear HR17; have HR17 := n4_; clear n4_; have m0_ := Aside0.mk (World.ownsMap.kept HM3.out (grown_of_below hb none) (by simp)); have m1_ := Aside0.mk (blk_below BK63.out hb); have m2_ := Aside0.mk (blk_below BK93.out hb); have m3_ := Aside0.mk (World.grownBy.trans HGR3.out (grown_of_below hb (some bm))); clear HM3 BK63 BK93 HGR3; have HM3 := m0_; have BK63 := m1_; have BK93 := m2_; have HGR3 := m3_; clear m0_ m1_ m2_ m3_; clear hbox hb hg18) | ((with_reducible refine gate_store (t := 84) (p := 18) rfl ?_); refine st_blkL rfl rfl 84 (.tmp 18) (.tmp 68) rfl (tbB D).toList rfl rfl BK18.out rfl (by rw [Array.length_toList, tbB_size, HD.out]; kernel_rfl) (by rw [Array.length_toList, tbB_size, tbB_size, HD.out, List.length_replicate]) (fun y hy => tbB_one D y hy) ?_; intro w14 hbk hg; have NEX := NE18.out.1; clear BK18; have BK18 := Aside0.mk hbk; have n4_ := Aside0.mk (R_new HR17.out hg NE18.out.2); clear HR17; have HR17 := n4_; clear n4_; have m0_ := Aside0.mk (World.ownsMap.kept HM3.out hg (fun he => NEX.1 (Option.some.inj he).symm)); have m1_ := Aside0.mk (blk_grown BK63.out hg (fun he => NEX.2.1 he.symm)); have m2_ := Aside0.mk (blk_grown BK93.out hg (fun he => NEX.2.2.1 he.symm)); have m3_ := Aside0.mk (grown_far HGR3.out hg NEX.2.2.2); clear HM3 BK63 BK93 HGR3; have HM3 := m0_; have BK63 := m1_; have BK93 := m2_; have HGR3 := m3_; clear m0_ m1_ m2_ m3_; clear hbk hg NEX) | ((with_reducible refine gate_dst (N := 72) rfl ?_); refine vl (.pointer (some ⟨g18, xa.toNat * 6 + xb.toNat, none⟩)) ?hr72 rfl ?_; (case hr72 => first | (go_simp; done) | (go_simp; rfl)); refine st_oneL (.tmp 72) (.const (.bool true)) rfl (u := .bool true) (q := xa.toNat * 6 + xb.toNat) rfl rfl BK18.out rfl (by kernel_rfl) (by rw [Array.toArray_toList, tbB_size, HD.out]; have h1 := HXA.out; have h2 := HXB.out; omega) rfl rfl rfl ?_; intro w15 hbk hg; rw [Array.toArray_toList, tbB_set, ← HDd.out] at hbk; have NEX := NE18.out.1; clear BK18; have BK18 := Aside0.mk hbk; have n4_ := Aside0.mk (R_new HR17.out hg NE18.out.2); clear HR17; have HR17 := n4_; clear n4_; have m0_ := Aside0.mk (World.ownsMap.kept HM3.out hg (fun he => NEX.1 (Option.some.inj he).symm)); have m1_ := Aside0.mk (blk_grown BK63.out hg (fun he => NEX.2.1 he.symm)); have m2_ := Aside0.mk (blk_grown BK93.out hg (fun he => NEX.2.2.1 he.symm)); have m3_ := Aside0.mk (grown_far HGR3.out hg NEX.2.2.2); clear HM3 BK63 BK93 HGR3; have HM3 := m0_; have BK63 := m1_; have BK93 := m2_; have HGR3 := m3_; clear m0_ m1_ m2_ m3_; clear hbk hg NEX) | ((with_reducible refine gate_dst (N := 76) rfl ?_); refine ld_blk 84 84 (.tmp 18) (tbB (wgDone D ws p)) rfl rfl BK18.out Try.underlying84 rfl (by rw [tbB_size, HDd.out, List.length_set, HD.out]; kernel_rfl) rfl ?_) | (go_at_call 71; refine calls_of_args (args' := #[.pointer (some ad), .slice (some ⟨g17, 0, none⟩) (wgSwap ws p).length c17, .agg (tbB (wgDone D ws p)), .map (some bm)]) (by rw [cm_swl HW.out HSW.out]) ((IH.out k1 (by have := HK1.out; omega) (some ad) l n (wgSwap ws p) (some ⟨g17, 0, none⟩) c17 (wgDone D ws p) bm M1 r1 M2 _ (C_grown HC.out HGR3.out HMB.out) HL.out HN.out H6.out.1 H6.out.2 (cm_next HSd.out HZ.out.1 HZ.out.2.1 HR17.out) (cm_cap HR17.out HW.out HSW.out) HSW.out (by rw [HDd.out, List.length_set]; exact HD.out) HOK1.out HM3.out A5'.out).mono ?_); rintro e w16 ⟨rfl, hm, hg⟩; have m1_ := Aside0.mk (blk_grown BK63.out hg (fun he => HG9.out.1 he)); have m2_ := Aside0.mk (blk_grown BK93.out hg (fun he => HG9.out.2.1 he)); have m3_ := Aside0.mk (World.grownBy.trans HGR3.out hg); clear HM3 BK63 BK93 HGR3; have HM3 := Aside0.mk hm; have BK63 := m1_; have BK93 := m2_; have HGR3 := m3_; clear m1_ m2_ m3_ hm hg))
              go_roundg k1
              case measure => have := HK1.out; omega
              case rel => exact ⟨M2, p + 1, wrap64 (out + r1), true, rfl, rfl, congrArg (Value.int .i64) (hp1.trans HZ.out.2.1), H', ⟨by have := HK1.out; omega⟩, ⟨by have h1 := HZ.out.2.2.1; have h2 := H6.out; omega, wrap64_wf _⟩, HOK2, HM3, BK63, BK93, HGR3⟩

end Go.Proofs.Ythibphndihjcaaa.P
