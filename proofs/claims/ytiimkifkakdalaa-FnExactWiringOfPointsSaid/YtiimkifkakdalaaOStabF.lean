/- slices.SortStableFunc over at most twenty rows (in work). -/
import Derived.Test.YtiimkifkakdalaaWAll2
import Derived.Test.YtiimkifkakdalaaOStab
import Derived.Test.YtiimkifkakdalaaOSortZ
import Derived.Test.YtiimkifkakdalaaCIns
import Derived.Shelf.Lay
import Derived.Ground.SlsfProg
namespace Go.Proofs
open Go.Shelf
shelf_lay_g SlLaysF.n20 Slsf 20 at Try 129 as Try.insRows
end Go.Proofs
namespace Go.Proofs.Ytiimkifkakdalaa.P
open Go.RowKit Go.Sort Go.Proofs.YtiimkifkakdalaaW.PrintWords Go.Proofs.YtiimkifkakdalaaW.PrintLast Go.Proofs.YtiimkifkakdalaaW.PrintMore
set_option linter.unusedVariables false
set_option linter.unusedSimpArgs false
/-- The comparison of two slopes. -/
def slP (p q r s : S64) : Int := if wrap64 ((wrap64 (q.f1 - p.f1)) * (wrap64 (s.f0 - r.f0))) < wrap64 ((wrap64 (s.f1 - r.f1)) * (wrap64 (q.f0 - p.f0))) then -1 else if wrap64 ((wrap64 (q.f1 - p.f1)) * (wrap64 (s.f0 - r.f0))) > wrap64 ((wrap64 (s.f1 - r.f1)) * (wrap64 (q.f0 - p.f0))) then 1 else 0
theorem slP_val (p q r s : S64) : impl_slopes.f p.f0 p.f1 q.f0 q.f1 r.f0 r.f1 s.f0 s.f1 = some (slP p q r s) := by
  unfold impl_slopes.f slP
  rw [cmpP]; rfl
def slR (l : List S64) (x y : List Int) : Int := slP (rd_T64 l (x.getD 0 0)) (rd_T64 l (x.getD 1 0)) (rd_T64 l (y.getD 0 0)) (rd_T64 l (y.getD 1 0))
def zCs (l : List S64) (z0 : Zr) (zs : List Zr) (i j : Nat) : Int := slR l (zat z0 zs i).2 (zat z0 zs j).2
theorem cell_sorted {w : World} {g m : Nat} {z0 : Zr} {zs : List Zr} {dk : Array Nat} {os : Array Obj} {ad : Addr} {v : Value} (h : w.cell? ad = some v) (hne : ad.block ≠ g) : (sortWorld (zEnc z0 zs) w g 0 m dk os).cell? ad = some v := by
  have hg := grownBy_sortedE (enc := zEnc z0 zs) (w := w) (g := g) (n := m) (os := os) dk
  have hb := hg.block ad.block (World.block_lt_of_cell? _ _ h) (fun he => hne (Option.some.inj he))
  rw [← h]
  unfold World.cell?
  rw [show (sortWorld (zEnc z0 zs) w g 0 m dk os).heap[ad.block]? = w.heap[ad.block]? from hb]
/-- What a row of a pair is. -/
def rowOk (n : Nat) (z : Zr) : Prop := ∃ a b : Int, z.2 = [a, b] ∧ (0 ≤ a ∧ a < (n : Int)) ∧ (0 ≤ b ∧ b < (n : Int))
set_option maxRecDepth 100000 in
theorem sort_cmpS {w : World} {g gp n cp : Nat} {P : Addr} {l : List S64} {z0 : Zr} {zs : List Zr} {ok : Nat → Prop} {base : Nat} (h0 : z0 ∈ zs) (hW : Rws w base ok zs) (hne : ∀ k, ok k → k ≠ g) (hrow : ∀ z ∈ zs, rowOk n z)
    (hc : w.cell? ⟨gp, 0, none⟩ = some (.slice (some P) n cp)) (hp : Kd.C k64 w (some P) n l) (hgp : gp ≠ g) (hgP : P.block ≠ g) :
    CmpLays1 Try.prog 60 #[.pointer (some ⟨gp, 0, none⟩)] (zEnc z0 zs) (zCs l z0 zs) g 0 zs.length w := by
  intro m os dk _ x y
  obtain ⟨n1, c1, e1, f1, l1, r1⟩ := sort_read (m := m) (z0 := z0) (dk := dk) (os := os) hW hne (zat z0 zs x) (zat_mem z0 zs h0 x)
  obtain ⟨n2, c2, e2, f2, l2, r2⟩ := sort_read (m := m) (z0 := z0) (dk := dk) (os := os) hW hne (zat z0 zs y) (zat_mem z0 zs h0 y)
  obtain ⟨a, b, ex, ha, hb⟩ := hrow _ (zat_mem z0 zs h0 x)
  obtain ⟨c, d, ey, hcc, hd⟩ := hrow _ (zat_mem z0 zs h0 y)
  rw [ex] at r1 f1
  rw [ey] at r2 f2
  have f1' : n1 = 2 := f1
  have f2' : n2 = 2 := f2
  subst f1' f2'
  obtain ⟨X, eX, hX0⟩ := Kd.at_int r1 0 (by decide) (by simp)
  obtain ⟨X', eX', hX1⟩ := Kd.at_int r1 1 (by decide) (by simp)
  obtain ⟨Y, eY, hY0⟩ := Kd.at_int r2 0 (by decide) (by simp)
  obtain ⟨Y', eY', hY1⟩ := Kd.at_int r2 1 (by decide) (by simp)
  have : X' = X := Option.some.inj (eX'.symm.trans eX)
  subst this
  have : Y' = Y := Option.some.inj (eY'.symm.trans eY)
  subst this
  have pts : ∀ q : Int, 0 ≤ q ∧ q < (n : Int) → (sortWorld (zEnc z0 zs) w g 0 m dk os).cell? (P.add (q.toNat * 2)) = some (.int .i64 (rd_T64 l q).f0) ∧ (sortWorld (zEnc z0 zs) w g 0 m dk os).cell? ⟨(P.add (q.toNat * 2)).block, (P.add (q.toNat * 2)).off + 1, none⟩ = some (.int .i64 (rd_T64 l q).f1) := by
    intro q hq
    obtain ⟨ad, e, h1, h2⟩ := at_T64 hp q hq.1 hq.2
    obtain rfl := Option.some.inj e
    have hba : (P.add (q.toNat * 2)).block = P.block := by first | rfl | (unfold Addr.add; split <;> rfl) | simp [Addr.add]
    exact ⟨cell_sorted h1 (by rw [hba]; exact hgP), cell_sorted h2 (by show (P.add (q.toNat * 2)).block ≠ g; rw [hba]; exact hgP)⟩
  have := WiringOfPoints_1.grows gp n c1 c2 cp X' Y' P a b c d _ l (sortWorld (zEnc z0 zs) w g 0 m dk os) ⟨cell_sorted hc hgp, hX0, hX1, hY0, hY1, (pts a ha).1, (pts a ha).2, (pts b hb).1, (pts b hb).2, (pts c hcc).1, (pts c hcc).2, (pts d hd).1, (pts d hd).2⟩ ⟨ha, hb, hcc, hd⟩ (slP_val _ _ _ _)
  show Calls Try.prog 60 #[slV (zat z0 zs x).1, slV (zat z0 zs y).1, .pointer (some ⟨gp, 0, none⟩)] _ _
  rw [e1, e2, eX, eY]
  have ev : zCs l z0 zs x y = slP (rd_T64 l a) (rd_T64 l b) (rd_T64 l c) (rd_T64 l d) := by unfold zCs slR; rw [ex, ey]; rfl
  rw [ev]
  exact this
set_option maxHeartbeats 2000000 in
set_option maxRecDepth 100000 in
theorem insRows.calls (v : Value) (rows : List (List Int)) (w0 w : World) (P0 : Nat → Prop) (gp n cp : Nat) (P : Addr) (l : List S64) (hB : Below w0.heap.size w0 w) (hS : Kd.S (Kd.slice 3 (Kd.int .i64)) 25 w w0.heap.size P0 v rows) (hlen : 0 < rows.length ∧ rows.length < 1099511627776) (hrow : ∀ r ∈ rows, ∃ a b : Int, r = [a, b] ∧ (0 ≤ a ∧ a < (n : Int)) ∧ (0 ≤ b ∧ b < (n : Int)))
    (hc : w.cell? ⟨gp, 0, none⟩ = some (.slice (some P) n cp)) (hp : Kd.C k64 w (some P) n l) (hgp : some gp ≠ v.ownBlock) (hgP : some P.block ≠ v.ownBlock) (m : Nat) (hm : m = rows.length) :
    Calls Try.prog 129 #[v, .int .i64 (0 : Nat), .int .i64 (m : Nat), .func (.func 60) #[] #[.pointer (some ⟨gp, 0, none⟩)]] w fun e w' => e = .returned (.tuple #[]) ∧ Kd.S (Kd.slice 3 (Kd.int .i64)) 25 w' w0.heap.size P0 v (bSort (fun x y => decide (slR l x y < 0)) rows) ∧ Below w0.heap.size w0 w' ∧ Kept w w' P0 := by
  obtain ⟨zs, rfl, hV, hW⟩ := S_split hS
  have hP := (Kd.S_R hS).1
  have ho := Kd.own_of_R hV
  rw [List.length_map] at ho hlen hm
  subst hm
  obtain ⟨z0, h0⟩ : ∃ z0, z0 ∈ zs := ⟨zs[0]'hlen.1, List.getElem_mem _⟩
  rcases ho.2 with ⟨_, h00⟩ | ⟨g, cap, cur, rfl, hg, hb, h1, h2, h3, h4⟩
  · omega
  · have hgl : g < w.heap.size := (Array.getElem?_eq_some_iff.1 hb).1
    have hWne : ∀ k, (P0 k ∧ some k ≠ (Value.slice (some ⟨g, 0, none⟩) zs.length cap).ownBlock) → k ≠ g := fun k hk he => hk.2 (by rw [he]; rfl)
    have hen : (List.range zs.length).map (zEnc z0 zs) = zs.map (fun z => slV z.1) := by
      conv => rhs; rw [← zat_range z0 zs]
      rw [List.map_map]; rfl
    have henc : encs slV (zs.map (·.1)) = zs.map (fun z => slV z.1) := by
      unfold encs
      rw [List.map_map]; rfl
    have hH : Holds (zEnc z0 zs) w g 0 (List.range zs.length).toArray := holds_of_blockE hb (by
      rw [List.length_range, hen, ← henc]
      rw [Nat.mul_one] at h4
      exact h4)
    have hsz : (List.range zs.length).toArray.size = zs.length := by simp
    have eg : ∀ args w, (callFunc 60 args).run Try.prog w = .ok (.enter 60 args) w := enters_of Try.func60 (by kernel_rfl) rfl
    have hcmp := sort_cmpS (g := g) (l := l) h0 hW hWne (fun z hz => hrow z.2 (List.mem_map.mpr ⟨z, hz, rfl⟩)) hc hp (fun e => hgp (by rw [e]; rfl)) (fun e => hgP (by rw [e]; rfl))
    have hcon := Any.insertionSortCmpFunc_s Try.insRows (zEnc z0 zs) (zCs l z0 zs) 60 #[.pointer (some ⟨gp, 0, none⟩)] g 0 cap 0 zs.length (List.range zs.length).toArray (List.range zs.length).toArray w w eg (by rw [hsz]; exact hcmp) ⟨fun _ => rfl, hH, hgl⟩ rfl ⟨0, #[], by rw [sortWorld_none]; exact (putRow_self _ w g 0 _ hH).symm⟩ (Nat.zero_le _) (by rw [hsz]; exact Nat.le_refl _) (by rw [hsz]; omega)
    have hbs := b_sort (ltOf (zCs l z0 zs)) (List.range zs.length)
    rw [List.length_range] at hbs
    rw [hbs, hsz] at hcon
    refine hcon.mono ?_
    rintro e w' ⟨rfl, nq, os, rfl⟩
    obtain ⟨ds, hds⟩ : ∃ ds, ds = bSort (ltOf (zCs l z0 zs)) (List.range zs.length) := ⟨_, rfl⟩
    have hd2 : ds.Perm (List.range zs.length) := by rw [hds]; exact bSort_perm _ _
    have hd1 : ds.length = zs.length := by rw [hd2.length_eq, List.length_range]
    rw [← hds]
    obtain ⟨ys, hys⟩ : ∃ ys, ys = ds.map (zat z0 zs) := ⟨_, rfl⟩
    have hyl : ys.length = zs.length := by rw [hys, List.length_map, hd1]
    have hyp : zs.Perm ys := by
      have := hd2.map (zat z0 zs)
      rw [zat_range] at this
      rw [hys]; exact this.symm
    have hye : ds.map (zEnc z0 zs) = encs slV (ys.map (·.1)) := by
      unfold encs
      rw [hys, List.map_map, List.map_map]; rfl
    have hrs : ys.map (·.2) = bSort (fun x y => decide (slR l x y < 0)) (zs.map (·.2)) := by
      have := bSort_map (fun j => (zat z0 zs j).2) (ltOf (zCs l z0 zs)) (fun x y => decide (slR l x y < 0)) (fun _ _ => rfl) (List.range zs.length)
      rw [← hds] at this
      rw [hys, List.map_map]
      refine this.trans ?_
      congr 1
      conv => rhs; rw [← zat_range z0 zs]
      rw [List.map_map]; rfl
    have hgr := grownBy_sortedE (enc := zEnc z0 zs) (w := w) (g := g) (n := nq) (os := os) ds.toArray
    have hnew := ownsRow_sortedE (enc := zEnc z0 zs) (n := nq) (os := os) (base := w0.heap.size) (ts := ds) (m := zs.length) hd1 hg hb h1 h2 h3
    rw [hye] at hnew
    rw [← hrs]
    refine ⟨rfl, ?_, hB.grown hgr (below_size hB) (fun k hk => ?_), (Kept.refl w _).of_grown hgr (fun k hk => ?_)⟩
    · refine S_join (okv := fun k => k = g) (okr := fun k => P0 k ∧ some k ≠ (Value.slice (some ⟨g, 0, none⟩) zs.length cap).ownBlock) ?_ ((hW.step (fun k hk hlt => hgr.block k hlt (fun he => hWne k hk (Option.some.inj he)))).perm hyp) (fun k hk => by rw [hk]; exact hP g rfl) (fun k hk => hk)
      refine Kd.R_of_own (by rw [List.length_map, hyl]; exact hnew) (fun k hk => ?_)
      have : some g = some k := hk
      exact (Option.some.inj this).symm
    · have : some g = some k := hk
      rw [← Option.some.inj this]; exact hg
    · have : some g = some k := hk
      rw [← Option.some.inj this]; exact .inl (hP g rfl)
set_option maxHeartbeats 8000000 in
set_option maxRecDepth 100000 in
theorem stableRows.calls (v : Value) (rows : List (List Int)) (w0 w : World) (P0 : Nat → Prop) (gp n cp : Nat) (P : Addr) (l : List S64) (hB : Below w0.heap.size w0 w) (hS : Kd.S (Kd.slice 3 (Kd.int .i64)) 25 w w0.heap.size P0 v rows) (hlen : 0 < rows.length ∧ rows.length < 20) (hrow : ∀ r ∈ rows, ∃ a b : Int, r = [a, b] ∧ (0 ≤ a ∧ a < (n : Int)) ∧ (0 ≤ b ∧ b < (n : Int)))
    (hc : w.cell? ⟨gp, 0, none⟩ = some (.slice (some P) n cp)) (hp : Kd.C k64 w (some P) n l) (hgp : some gp ≠ v.ownBlock) (hgP : some P.block ≠ v.ownBlock) (m : Nat) (hm : m = rows.length) :
    Calls Try.prog 104 #[v, .int .i64 (m : Nat), .func (.func 60) #[] #[.pointer (some ⟨gp, 0, none⟩)]] w fun e w' => e = .returned (.tuple #[]) ∧ Kd.S (Kd.slice 3 (Kd.int .i64)) 25 w' w0.heap.size P0 v (bSort (fun x y => decide (slR l x y < 0)) rows) ∧ Below w0.heap.size w0 w' ∧ Kept w w' P0 := by
  have HI := Aside0.mk (insRows.calls v rows w0 w P0 gp n cp P l hB hS ⟨hlen.1, by omega⟩ hrow hc hp hgp hgP m hm)
  have c1 : decide ((20 : Int) ≤ (m : Int)) = false := decide_eq_false (by omega)
  have c2 : decide ((20 : Int) < (m : Int)) = false := decide_eq_false (by omega)
  obtain ⟨z, hz⟩ : ∃ z : Int, (m : Int) = z := ⟨_, rfl⟩
  have e0 : (((0 : Nat) : Int)) = 0 := rfl
  rw [e0] at HI
  rw [hz] at c1 c2 HI ⊢
  clear hB hS hrow hc hp hgp hgP hm hlen hz
  go_enter Try.func104, Try.ntmps104
  go_wp2
  go_loopg [7, 8] 0 (fun kq v7 v8 w' => v7 = .int .i64 0 ∧ v8 = .int .i64 20 ∧ w' = w)
  case atStart => exact ⟨rfl, rfl, rfl⟩
  case round =>
    obtain ⟨rfl, rfl, rfl⟩ := hrel
    go_wp2_with (first | (go_at_call 129; (with_reducible refine HI.out.mono ?_); rintro e w6 ⟨rfl, hs6, hb6, hk6⟩))
    go_loopg [6, 7, 8] 0 (fun kq v6 v7 v8 w' => v6 = .int .i64 20 ∧ v7 = .int .i64 0 ∧ v8 = .int .i64 20 ∧ w' = w6)
    case atStart => exact ⟨rfl, rfl, rfl, rfl⟩
    case round =>
      obtain ⟨rfl, rfl, rfl, rfl⟩ := hrel
      go_wp2
      go_end0
      exact ⟨rfl, hs6, hb6, hk6⟩
set_option maxHeartbeats 8000000 in
set_option maxRecDepth 100000 in
theorem SortStable_rows.calls (v : Value) (rows : List (List Int)) (w0 w : World) (P0 : Nat → Prop) (gp n cp : Nat) (P : Addr) (l : List S64) (hB : Below w0.heap.size w0 w) (hS : Kd.S (Kd.slice 3 (Kd.int .i64)) 25 w w0.heap.size P0 v rows) (hlen : 0 < rows.length ∧ rows.length < 20) (hrow : ∀ r ∈ rows, ∃ a b : Int, r = [a, b] ∧ (0 ≤ a ∧ a < (n : Int)) ∧ (0 ≤ b ∧ b < (n : Int)))
    (hc : w.cell? ⟨gp, 0, none⟩ = some (.slice (some P) n cp)) (hp : Kd.C k64 w (some P) n l) (hgp : some gp ≠ v.ownBlock) (hgP : some P.block ≠ v.ownBlock) :
    Calls Try.prog 59 #[v, .func (.func 60) #[] #[.pointer (some ⟨gp, 0, none⟩)]] w fun e w' => e = .returned (.tuple #[]) ∧ Kd.S (Kd.slice 3 (Kd.int .i64)) 25 w' w0.heap.size P0 v (bSort (fun x y => decide (slR l x y < 0)) rows) ∧ Below w0.heap.size w0 w' ∧ Kept w w' P0 := by
  have HI := Aside0.mk (stableRows.calls v rows w0 w P0 gp n cp P l hB hS hlen hrow hc hp hgp hgP rows.length rfl)
  obtain ⟨A, c, rfl⟩ := Kd.S_slice hS
  clear hB hS hrow hc hp hgp hgP hlen
  go_enter Try.func59, Try.ntmps59
  go_wp2_with (first | (go_at_call 104; (with_reducible refine HI.out.mono ?_); rintro e w6 ⟨rfl, hs6, hb6, hk6⟩))
  go_end0
  exact ⟨rfl, hs6, hb6, hk6⟩
end Go.Proofs.Ytiimkifkakdalaa.P
